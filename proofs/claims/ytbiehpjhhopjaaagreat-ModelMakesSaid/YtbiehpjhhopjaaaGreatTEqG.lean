/-
 slices.EqualFunc of sections,routes,switches and locks,and what they are called with,walked. (Written by wip/tools/gen_eqf.py.)
-/
import Derived.Test.YtbiehpjhhopjaaaGreatTEqS
set_option linter.unusedVariables false
set_option linter.unusedSimpArgs false
set_option maxRecDepth 100000
set_option maxHeartbeats 16000000
namespace Go.Proofs.YtbiehpjhhopjaaaGreat
open Go.RowKit Go.Sort
def za6 {α:Type}(f:α→α→Bool):List α→List α→Bool
 | [],[]=>true
 | x::l,y::m=>f x y&&za6 f l m
 | _,_=>false
theorem allEq2_iff {α:Type}{f:α→α→Bool}: ∀ {l m:List α},za6 f l m=true↔l.length=m.length∧ ∀i (h:i<l.length) (h':i<m.length),f l[i] m[i]=true
 | [],[]=>by simp[za6]
 | [],y::m=>by simp[za6]
 | x::l,[]=>by simp[za6]
 | x::l,y::m=>by
  rw[za6,Bool.and_eq_true,allEq2_iff];constructor
  ·rintro⟨h1,h2,h3⟩;refine⟨by simp[h2],fun i hi hi'=> ?_⟩;cases i with
   | zero=>exact h1
   | succ i=>exact h3 i (by simpa using hi) (by simpa using hi')
  ·rintro⟨h2,h3⟩;exact⟨h3 0 (by simp) (by simp),by simpa using h2,fun i hi hi'=>h3 (i+1) (by simpa using hi) (by simpa using hi')⟩
theorem zok {α:Type} [DecidableEq α] (l m:List α):za6 (fun x y=>decide (x=y)) l m=decide (l=m):=by
 rw[Bool.eq_iff_iff,allEq2_iff,decide_eq_true_iff];constructor
 ·rintro⟨h1,h2⟩;exact List.ext_getElem h1 fun i h h'=>of_decide_eq_true (h2 i h h')
 ·rintro rfl;exact⟨rfl,fun i h h'=>decide_eq_true rfl⟩
def zbq (x y:Sw):Bool:=decide (x.id=y.id)&&decide (x.call=y.call)
def zbi (x y:Lk):Bool:=decide (x.id=y.id)&&decide (x.ph=y.ph)&&decide (x.gone=y.gone)
theorem zv9 (x y:Sw) (w:World):Calls Tryz.prog 151 #[.agg #[x.id,x.lie,x.call],.agg #[y.id,y.lie,y.call]] w (zae w (zbq x y)):=by
 obtain⟨B,hB⟩: ∃B,zbq x y=B:=⟨_,rfl⟩;have HB:=hI hB;rw[hB];clear hB;go_enter Tryz.func151,Tryz.ntmps151;by_cases hqid:x.id=y.id
 ·have tqid:(x.id==y.id)=true:=by rw[beq_iff_eq];exact hqid
  have HQid:=hI hqid;clear hqid;by_cases hqcall:x.call=y.call
  ·have tqcall:(x.call==y.call)=true:=(by rw[beq_iff_eq];exact hqcall);have HQcall:=hI hqcall;clear hqcall;have HE:Hid (B=true):=(by show _=_;rw[←HB.out];unfold zbq;simp[HQid.out,HQcall.out]);go_wp2_with fail;go_ret;exact⟨by rw[HE.out];rfl,(jal.alloc (by simp) _)⟩
  ·have tqcall:(x.call==y.call)=false:=(by rw[beq_eq_false_iff_ne];exact hqcall);have HE:Hid (B=false):=(by show _=_;rw[←HB.out];unfold zbq;simp[hqcall]);clear hqcall;go_wp2_with fail;go_ret;exact⟨by rw[HE.out];rfl,(jal.alloc (by simp) _)⟩
 ·have tqid:(x.id==y.id)=false:=by rw[beq_eq_false_iff_ne];exact hqid
  have HE:Hid (B=false):=by show _=_;rw[←HB.out];unfold zbq;simp[hqid]
  clear hqid;go_wp2_with fail;go_ret;exact⟨by rw[HE.out];rfl,(jal.alloc (by simp) _)⟩
theorem zwa (x y:Lk) (w:World):Calls Tryz.prog 152 #[.agg #[x.id,.int .u8 x.ph,x.gone,x.left],.agg #[y.id,.int .u8 y.ph,y.gone,y.left]] w (zae w (zbi x y)):=by
 obtain⟨B,hB⟩: ∃B,zbi x y=B:=⟨_,rfl⟩;have HB:=hI hB;rw[hB];clear hB;go_enter Tryz.func152,Tryz.ntmps152;by_cases hqid:x.id=y.id
 ·have tqid:(x.id==y.id)=true:=by rw[beq_iff_eq];exact hqid
  have HQid:=hI hqid;clear hqid;by_cases hqph:x.ph=y.ph
  ·have tqph:(x.ph==y.ph)=true:=(by rw[beq_iff_eq];exact hqph);have HQph:=hI hqph;clear hqph;by_cases hqgone:x.gone=y.gone
   ·have tqgone:(x.gone==y.gone)=true:=(by rw[beq_iff_eq];exact hqgone);have HQgone:=hI hqgone;clear hqgone;have HE:Hid (B=true):=(by show _=_;rw[←HB.out];unfold zbi;simp[HQid.out,HQph.out,HQgone.out]);go_wp2_with fail;go_ret;exact⟨by rw[HE.out];rfl,(jal.alloc (by simp) _)⟩
   ·have tqgone:(x.gone==y.gone)=false:=(by rw[beq_eq_false_iff_ne];exact hqgone);have HE:Hid (B=false):=(by show _=_;rw[←HB.out];unfold zbi;simp[hqgone]);clear hqgone;go_wp2_with fail;go_ret;exact⟨by rw[HE.out];rfl,(jal.alloc (by simp) _)⟩
  ·have tqph:(x.ph==y.ph)=false:=(by rw[beq_eq_false_iff_ne];exact hqph);have HE:Hid (B=false):=(by show _=_;rw[←HB.out];unfold zbi;simp[hqph]);clear hqph;go_wp2_with fail;go_ret;exact⟨by rw[HE.out];rfl,(jal.alloc (by simp) _)⟩
 ·have tqid:(x.id==y.id)=false:=by rw[beq_eq_false_iff_ne];exact hqid
  have HE:Hid (B=false):=by show _=_;rw[←HB.out];unfold zbi;simp[hqid]
  clear hqid;go_wp2_with fail;go_ret;exact⟨by rw[HE.out];rfl,(jal.alloc (by simp) _)⟩
theorem zwb (a b:Option Addr) (ca cb:Nat) (l m:List Sw) (w:World) (hl:SlA w 3 RSw a ca l) (hm:SlA w 3 RSw b cb m) (h1:l.length≤1000) (h2:m.length≤1000):
  Calls Tryz.prog 153 #[js a l.length ca,js b m.length cb,.func (.func 151) #[] #[]] w (zae w (za6 zbq l m)):=by
 have HL:Hid (∀W,jb w W→SlA W 3 RSw a ca l):=fun W hb=>hl.below zc6 hb;have HM:Hid (∀W,jb w W→SlA W 3 RSw b cb m):=fun W hb=>hm.below zc6 hb
 have HV1:Hid (l.length≠m.length→za6 zbq l m=false):=fun h=>by
  cases hh:za6 zbq l m with
  | false=>rfl
  | true=>exact absurd (allEq2_iff.1 hh).1 h
 have HV2:Hid (l.length=m.length→(∀k (h:k<l.length) (h':k<m.length),zbq l[k] m[k]=true)→za6 zbq l m=true):=fun h h3=>allEq2_iff.2 ⟨h,h3⟩
 have HV3:Hid (∀k (h:k<l.length) (h':k<m.length),zbq l[k] m[k]=false→za6 zbq l m=false):=fun k h h' h3=>by
  cases hh:za6 zbq l m with
  | false=>rfl
  | true=>exact absurd (((allEq2_iff.1 hh).2 k h h').symm.trans h3) (by decide)
 clear hl hm;generalize za6 zbq l m=B at *;go_enter Tryz.func153,Tryz.ntmps153;by_cases hlen:l.length=m.length
 ·have HLE:=hI hlen;have td:((l.length:Int)==(m.length:Int))=true:=by rw[beq_iff_eq];omega
  have te:((l.length:Int) != (m.length:Int))=false:=by rw[bne,td];rfl
  clear hlen;go_wp2_with fail;go_loopg [17] l.length (fun g i wr=> ∃k:Nat,k≤l.length∧g=l.length-k∧i= .int .i64 k∧jb w wr∧ ∀j (h:j<l.length) (h':j<m.length),j<k→zbq l[j] m[j]=true)
  case atStart=>exact⟨0,by omega,by omega,rfl,Below.refl _ _,fun j _ _ hj=>absurd hj (Nat.not_lt_zero _)⟩
  case round=>
   obtain⟨k,hk,rfl,rfl,hb,hno⟩:=hrel;have HB:=hI hb;have HNO:=hI hno;clear hb hno;by_cases hlt:k<l.length
   ·have hd:decide ((k:Int)<(l.length:Int))=true:=(by simp;omega);have hlm:k<m.length:=(by rw[←HLE.out];exact hlt);obtain⟨g,off,vs,rfl,hxl,hxc,hxr⟩:=(HL wr HB).at_ k hlt;obtain rfl:vs=[.int .i64 l[k].id,.int .i64 l[k].lie,.int .i64 l[k].call]:=hxr;obtain⟨g2,off2,vs2,rfl,hyl,hyc,hyr⟩:=(HM wr HB).at_ k hlm;obtain rfl:vs2=[.int .i64 m[k].id,.int .i64 m[k].lie,.int .i64 m[k].call]:=hyr;have x0:=hxc 0 (by simp);have y0:=hyc 0 (by simp);have x1:=hxc 1 (by simp);have y1:=hyc 1 (by simp);have x2:=hxc 2 (by simp);have y2:=hyc 2 (by simp);simp only[Nat.add_zero,List.getElem_cons_zero,List.getElem_cons_succ]at x0 y0 x1 y1 x2 y2;have lx:=block_lt_of_cell x0;have ly:=block_lt_of_cell y0;clear hxl hxc hyl hyc;have c0:(0:Int)≤(k:Int):=(by omega);have c1:(k:Int)<(l.length:Int):=(by omega);have c2:(k:Int)<(m.length:Int):=(by omega);go_upto_region 7 with fail;obtain⟨W9,hW9⟩: ∃W9,W9=(wr.alloc (.cells #[l[k].id,l[k].lie,l[k].call] 108)).alloc (.cells #[m[k].id,m[k].lie,m[k].call] 108):=⟨_,rfl⟩;rw[←hW9];have hb9:jb wr W9:=(by rw[hW9];exact jal.alloc (by simp) _);have hx9:jk W9 wr.heap.size #[l[k].id,l[k].lie,l[k].call] 108:=(by rw[hW9];exact(heap_alloc_old _ _ (by simp)).trans (heap_alloc_new _ _));have hy9:jk W9 (wr.heap.size+1) #[m[k].id,m[k].lie,m[k].call] 108:=(by rw[hW9];exact heap_alloc2_new _ _ _);have u0x:jc W9 wr.heap.size 0 l[k].id:=jr hx9;have u1x:jc W9 wr.heap.size 1 l[k].lie:=jr hx9;have u2x:jc W9 wr.heap.size 2 l[k].call:=jr hx9;have u0y:jc W9 (wr.heap.size+1) 0 m[k].id:=jr hy9;have u1y:jc W9 (wr.heap.size+1) 1 m[k].lie:=jr hy9;have u2y:jc W9 (wr.heap.size+1) 2 m[k].call:=jr hy9;have HB9:=jh HB hb9;clear hb9 hx9 hy9 hW9;have HCk:=hI (zv9 l[k] m[k] W9);have HV3k:=hI (HV3 k hlt hlm)
    have HNk:Hid (zbq l[k] m[k]=true→ ∀j (h:j<l.length) (h':j<m.length),j<k+1→zbq l[j] m[j]=true):=fun h j j1 j2 j3=>by
     by_cases hjk:j=k
     ·subst hjk;exact h
     ·exact HNO j j1 j2 (by omega)
    generalize zbq l[k] m[k]=bk at *;cases bk with
    | true=>
     go_wp2_with fail;refine HCk.mono ?_;rintro e W3 ⟨rfl,hb⟩;have HB3:=jh HB9 hb;clear hb HCk;go_wp2_with fail;go_roundg (l.length-(k+1))
     case measure=>go_light;omega
     case rel=>go_light;exact⟨k+1,by omega,by omega,by go_num,HB3,HNk (by simp)⟩
    | false=>
     have HE:=hI (HV3k (by simp));go_wp2_with fail;refine HCk.mono ?_;rintro e W3 ⟨rfl,hb⟩;have HB3:=jh HB9 hb;clear hb HCk;go_wp2_with fail;go_ret;exact⟨by rw[HE.out];rfl,HB3⟩
   ·obtain rfl:k=l.length:=(by omega);have HE:Hid (B=true):=HV2 HLE fun j j1 j2=>HNO j j1 j2 j1;go_wp2_with fail;go_ret;exact⟨by rw[HE.out];rfl,HB⟩
 ·have HE:=hI (HV1 hlen);have td:((l.length:Int)==(m.length:Int))=false:=by rw[beq_eq_false_iff_ne];omega
  have te:((l.length:Int) != (m.length:Int))=true:=by rw[bne,td];rfl
  clear hlen;go_wp2_with fail;go_ret;exact⟨by rw[HE.out];rfl,Below.refl _ _⟩
theorem zwc (a b:Option Addr) (ca cb:Nat) (l m:List Lk) (w:World) (hl:SlA w 4 RLk a ca l) (hm:SlA w 4 RLk b cb m) (h1:l.length≤1000) (h2:m.length≤1000):
  Calls Tryz.prog 154 #[js a l.length ca,js b m.length cb,.func (.func 152) #[] #[]] w (zae w (za6 zbi l m)):=by
 have HL:Hid (∀W,jb w W→SlA W 4 RLk a ca l):=fun W hb=>hl.below zc7 hb;have HM:Hid (∀W,jb w W→SlA W 4 RLk b cb m):=fun W hb=>hm.below zc7 hb
 have HV1:Hid (l.length≠m.length→za6 zbi l m=false):=fun h=>by
  cases hh:za6 zbi l m with
  | false=>rfl
  | true=>exact absurd (allEq2_iff.1 hh).1 h
 have HV2:Hid (l.length=m.length→(∀k (h:k<l.length) (h':k<m.length),zbi l[k] m[k]=true)→za6 zbi l m=true):=fun h h3=>allEq2_iff.2 ⟨h,h3⟩
 have HV3:Hid (∀k (h:k<l.length) (h':k<m.length),zbi l[k] m[k]=false→za6 zbi l m=false):=fun k h h' h3=>by
  cases hh:za6 zbi l m with
  | false=>rfl
  | true=>exact absurd (((allEq2_iff.1 hh).2 k h h').symm.trans h3) (by decide)
 clear hl hm;generalize za6 zbi l m=B at *;go_enter Tryz.func154,Tryz.ntmps154;by_cases hlen:l.length=m.length
 ·have HLE:=hI hlen;have td:((l.length:Int)==(m.length:Int))=true:=by rw[beq_iff_eq];omega
  have te:((l.length:Int) != (m.length:Int))=false:=by rw[bne,td];rfl
  clear hlen;go_wp2_with fail;go_loopg [17] l.length (fun g i wr=> ∃k:Nat,k≤l.length∧g=l.length-k∧i= .int .i64 k∧jb w wr∧ ∀j (h:j<l.length) (h':j<m.length),j<k→zbi l[j] m[j]=true)
  case atStart=>exact⟨0,by omega,by omega,rfl,Below.refl _ _,fun j _ _ hj=>absurd hj (Nat.not_lt_zero _)⟩
  case round=>
   obtain⟨k,hk,rfl,rfl,hb,hno⟩:=hrel;have HB:=hI hb;have HNO:=hI hno;clear hb hno;by_cases hlt:k<l.length
   ·have hd:decide ((k:Int)<(l.length:Int))=true:=(by simp;omega);have hlm:k<m.length:=(by rw[←HLE.out];exact hlt);obtain⟨g,off,vs,rfl,hxl,hxc,hxr⟩:=(HL wr HB).at_ k hlt;obtain rfl:vs=[.int .i64 l[k].id,.int .u8 l[k].ph,.int .i64 l[k].gone,.int .i64 l[k].left]:=hxr;obtain⟨g2,off2,vs2,rfl,hyl,hyc,hyr⟩:=(HM wr HB).at_ k hlm;obtain rfl:vs2=[.int .i64 m[k].id,.int .u8 m[k].ph,.int .i64 m[k].gone,.int .i64 m[k].left]:=hyr;have x0:=hxc 0 (by simp);have y0:=hyc 0 (by simp);have x1:=hxc 1 (by simp);have y1:=hyc 1 (by simp);have x2:=hxc 2 (by simp);have y2:=hyc 2 (by simp);have x3:=hxc 3 (by simp);have y3:=hyc 3 (by simp);simp only[Nat.add_zero,List.getElem_cons_zero,List.getElem_cons_succ]at x0 y0 x1 y1 x2 y2 x3 y3;have lx:=block_lt_of_cell x0;have ly:=block_lt_of_cell y0;clear hxl hxc hyl hyc;have c0:(0:Int)≤(k:Int):=(by omega);have c1:(k:Int)<(l.length:Int):=(by omega);have c2:(k:Int)<(m.length:Int):=(by omega);go_upto_region 7 with fail;obtain⟨W9,hW9⟩: ∃W9,W9=(wr.alloc (.cells #[l[k].id,.int .u8 l[k].ph,l[k].gone,l[k].left] 99)).alloc (.cells #[m[k].id,.int .u8 m[k].ph,m[k].gone,m[k].left] 99):=⟨_,rfl⟩;rw[←hW9];have hb9:jb wr W9:=(by rw[hW9];exact jal.alloc (by simp) _);have hx9:jk W9 wr.heap.size #[l[k].id,.int .u8 l[k].ph,l[k].gone,l[k].left] 99:=(by rw[hW9];exact(heap_alloc_old _ _ (by simp)).trans (heap_alloc_new _ _));have hy9:jk W9 (wr.heap.size+1) #[m[k].id,.int .u8 m[k].ph,m[k].gone,m[k].left] 99:=(by rw[hW9];exact heap_alloc2_new _ _ _);have u0x:jc W9 wr.heap.size 0 l[k].id:=jr hx9;have u1x:jc W9 wr.heap.size 1 (.int .u8 l[k].ph):=jr hx9;have u2x:jc W9 wr.heap.size 2 l[k].gone:=jr hx9;have u3x:jc W9 wr.heap.size 3 l[k].left:=jr hx9;have u0y:jc W9 (wr.heap.size+1) 0 m[k].id:=jr hy9;have u1y:jc W9 (wr.heap.size+1) 1 (.int .u8 m[k].ph):=jr hy9;have u2y:jc W9 (wr.heap.size+1) 2 m[k].gone:=jr hy9;have u3y:jc W9 (wr.heap.size+1) 3 m[k].left:=jr hy9;have HB9:=jh HB hb9;clear hb9 hx9 hy9 hW9;have HCk:=hI (zwa l[k] m[k] W9);have HV3k:=hI (HV3 k hlt hlm)
    have HNk:Hid (zbi l[k] m[k]=true→ ∀j (h:j<l.length) (h':j<m.length),j<k+1→zbi l[j] m[j]=true):=fun h j j1 j2 j3=>by
     by_cases hjk:j=k
     ·subst hjk;exact h
     ·exact HNO j j1 j2 (by omega)
    generalize zbi l[k] m[k]=bk at *;cases bk with
    | true=>
     go_wp2_with fail;refine HCk.mono ?_;rintro e W3 ⟨rfl,hb⟩;have HB3:=jh HB9 hb;clear hb HCk;go_wp2_with fail;go_roundg (l.length-(k+1))
     case measure=>go_light;omega
     case rel=>go_light;exact⟨k+1,by omega,by omega,by go_num,HB3,HNk (by simp)⟩
    | false=>
     have HE:=hI (HV3k (by simp));go_wp2_with fail;refine HCk.mono ?_;rintro e W3 ⟨rfl,hb⟩;have HB3:=jh HB9 hb;clear hb HCk;go_wp2_with fail;go_ret;exact⟨by rw[HE.out];rfl,HB3⟩
   ·obtain rfl:k=l.length:=(by omega);have HE:Hid (B=true):=HV2 HLE fun j j1 j2=>HNO j j1 j2 j1;go_wp2_with fail;go_ret;exact⟨by rw[HE.out];rfl,HB⟩
 ·have HE:=hI (HV1 hlen);have td:((l.length:Int)==(m.length:Int))=false:=by rw[beq_eq_false_iff_ne];omega
  have te:((l.length:Int) != (m.length:Int))=true:=by rw[bne,td];rfl
  clear hlen;go_wp2_with fail;go_ret;exact⟨by rw[HE.out];rfl,Below.refl _ _⟩
theorem zol {x y:Sec}(h1:x.id=y.id) (h2:x.pt=y.pt) (h3:x.ends=y.ends):x=y:=by cases x;cases y;simp_all
theorem zom {x y:Rt}(h1:x.id=y.id) (h2:x.E=y.E) (h3:x.X=y.X) (h4:x.A=y.A) (h5:x.O=y.O) (h6:x.fl=y.fl) (h7:x.T=y.T):x=y:=by cases x;cases y;simp_all
theorem zon (a b:Option Addr) (ca cb:Nat) (l m:List Int) (w:World) (hl:ILv w (js a l.length ca) l) (hm:ILv w (js b m.length cb) m) (h1:l.length≤17592186044416) (h2:m.length≤17592186044416):
  Calls Tryz.prog 99 #[js a l.length ca,js b m.length cb] w (zae w (eqB l m)):=by
 obtain⟨_,_,e1,k1⟩:=hl.at_;obtain⟨_,_,e2,k2⟩:=hm.at_;cases e1;cases e2;refine(zqu _ _ _ _ _ _ l m w k1 k2 (by omega) (by omega)).mono ?_;rintro e w' h;unfold zig at h;obtain⟨h,n,hn⟩:=h;exact⟨h,by rw[hn];exact zal (Below.refl _ _) _⟩
theorem zwd (x y:Sec) (a b:Option Addr) (c d:Nat) (w:World) (hx:SlA w 2 RJn a c x.ends) (hy:SlA w 2 RJn b d y.ends) (h1:x.ends.length≤8796093022208) (h2:y.ends.length≤8796093022208):
  Calls Tryz.prog 141 #[.agg #[x.id,x.pt,js a x.ends.length c],.agg #[y.id,y.pt,js b y.ends.length d]] w (zae w (decide (x=y))):=by
 have HC1:Hid (∀W,jb w W→Calls Tryz.prog 142 #[js a x.ends.length c,js b y.ends.length d] W (zae W (decide (x.ends=y.ends)))):=fun W hb=>zv6 a b c d x.ends y.ends W (hx.below zcn hb) (hy.below zcn hb) h1 h2;have HV:Hid ((x=y→decide (x=y)=true)∧(x≠y→decide (x=y)=false)):=⟨fun h=>decide_eq_true h,fun h=>decide_eq_false h⟩;clear hx hy;generalize decide (x=y)=B at *;go_enter Tryz.func141,Tryz.ntmps141;go_upto_region 1 with fail;obtain⟨W0,hW0⟩: ∃W0,W0=(w.alloc (.cells #[x.id,x.pt,js a x.ends.length c] 80)).alloc (.cells #[y.id,y.pt,js b y.ends.length d] 80):=⟨_,rfl⟩;rw[←hW0];have K0:Hid (jb w W0):=by show Below _ _ _;rw[hW0];exact jal.alloc (by simp) _
 have HX0:Hid (jk W0 w.heap.size #[x.id,x.pt,js a x.ends.length c] 80):=by show _=_;rw[hW0];exact(heap_alloc_old _ _ (by simp)).trans (heap_alloc_new _ _)
 have HY0:Hid (jk W0 (w.heap.size+1) #[y.id,y.pt,js b y.ends.length d] 80):=by show _=_;rw[hW0];exact heap_alloc2_new _ _ _
 clear hW0;have KR:Hid (jb W0 W0):=Below.refl _ _;have bx:=jm KR HX0;have by_:=jm KR HY0;have xx0:jc W0 w.heap.size 0 x.id:=jr bx;have xx1:jc W0 w.heap.size 1 x.pt:=jr bx;have xx2:jc W0 w.heap.size 2 (js a x.ends.length c):=jr bx;have yy0:jc W0 (w.heap.size+1) 0 y.id:=jr by_;have yy1:jc W0 (w.heap.size+1) 1 y.pt:=jr by_;have yy2:jc W0 (w.heap.size+1) 2 (js b y.ends.length d):=jr by_;have lx:=zad bx;have ly:=zad by_;clear bx by_;by_cases hq0:x.id=y.id
 ·have tq0:(x.id==y.id)=true:=by rw[beq_iff_eq];exact hq0
  have HQ0:=hI hq0;clear hq0;by_cases hq1:x.pt=y.pt
  ·have tq1:(x.pt==y.pt)=true:=(by rw[beq_iff_eq];exact hq1);have HQ1:=hI hq1;clear hq1;by_cases hq2:x.ends=y.ends
   ·have HQ2:=hI hq2;have HCk:=hI (HC1 W0 (jo K0 KR));rw[show(decide (x.ends=y.ends))=true from decide_eq_true hq2]at HCk;clear hq2;go_wp2_with fail;refine HCk.mono ?_;rintro e W3 ⟨rfl,hb⟩;have HB3:=jh KR hb;clear hb;clear xx0 yy0 xx1 yy1 xx2 yy2 lx ly;have HE:Hid (B=true):=HV.1 (zol HQ0 HQ1 HQ2);go_wp2_with fail;go_ret;exact⟨by rw[HE.out];rfl,jo K0 HB3⟩
   ·have HE:Hid (B=false):=HV.2 fun e=>hq2 (by rw[e]);have HCk:=hI (HC1 W0 (jo K0 KR));rw[show(decide (x.ends=y.ends))=false from decide_eq_false hq2]at HCk;clear hq2;go_wp2_with fail;refine HCk.mono ?_;rintro e W3 ⟨rfl,hb⟩;have HB3:=jh KR hb;clear hb;clear xx0 yy0 xx1 yy1 xx2 yy2 lx ly;have bx:=jm HB3 HX0;have by_:=jm HB3 HY0;clear bx by_;go_wp2_with fail;go_ret;exact⟨by rw[HE.out];rfl,jo K0 HB3⟩
  ·have tq1:(x.pt==y.pt)=false:=(by rw[beq_eq_false_iff_ne];exact hq1);have HE:Hid (B=false):=HV.2 fun e=>hq1 (by rw[e]);clear hq1;go_wp2_with fail;go_ret;exact⟨by rw[HE.out];rfl,jo K0 KR⟩
 ·have tq0:(x.id==y.id)=false:=by rw[beq_eq_false_iff_ne];exact hq0
  have HE:Hid (B=false):=HV.2 fun e=>hq0 (by rw[e]);clear hq0;go_wp2_with fail;go_ret;exact⟨by rw[HE.out];rfl,jo K0 KR⟩
theorem zwe (x y:Rt) (a1 a3 a5 b1 b3 b5:Option Addr) (a2 a4 a6 b2 b4 b6:Nat) (w:World) (hx:RtM w (js a1 x.A.length a2) (js a3 x.O.length a4) (js a5 x.fl.length a6) x) (hy:RtM w (js b1 y.A.length b2) (js b3 y.O.length b4) (js b5 y.fl.length b6) y) (h1:x.fit) (h2:y.fit):
  Calls Tryz.prog 144 #[.agg #[x.id,x.E,x.X,js a1 x.A.length a2,js a3 x.O.length a4,js a5 x.fl.length a6,x.T],.agg #[y.id,y.E,y.X,js b1 y.A.length b2,js b3 y.O.length b4,js b5 y.fl.length b6,y.T]] w (zae w (decide (x=y))):=by
 have HXM:Hid (∀W,jb w W→RtM W (js a1 x.A.length a2) (js a3 x.O.length a4) (js a5 x.fl.length a6) x):=fun W hb=>hx.below hb;have HYM:Hid (∀W,jb w W→RtM W (js b1 y.A.length b2) (js b3 y.O.length b4) (js b5 y.fl.length b6) y):=fun W hb=>hy.below hb;have HC1:Hid (∀W,jb w W→Calls Tryz.prog 99 #[js a1 x.A.length a2,js b1 y.A.length b2] W (zae W (eqB x.A y.A))):=fun W hb=>zon _ _ _ _ _ _ W (HXM W hb).A (HYM W hb).A h1.1 h2.1;have HC2:Hid (∀W,jb w W→Calls Tryz.prog 99 #[js a3 x.O.length a4,js b3 y.O.length b4] W (zae W (eqB x.O y.O))):=fun W hb=>zon _ _ _ _ _ _ W (HXM W hb).O (HYM W hb).O h1.2.1 h2.2.1
 have HC3:Hid (∀W,jb w W→Calls Tryz.prog 145 #[js a5 x.fl.length a6,js b5 y.fl.length b6] W (zae W (decide (x.fl=y.fl)))):=fun W hb=>by
  obtain⟨_,_,e1,k1⟩:=(HXM W hb).fl;obtain⟨_,_,e2,k2⟩:=(HYM W hb).fl;cases e1;cases e2;exact zv7 _ _ _ _ _ _ W k1 k2 h1.2.2 h2.2.2
 have HV:Hid ((x=y→decide (x=y)=true)∧(x≠y→decide (x=y)=false)):=⟨fun h=>decide_eq_true h,fun h=>decide_eq_false h⟩;clear hx hy HXM HYM;generalize decide (x=y)=B at *;go_enter Tryz.func144,Tryz.ntmps144;go_upto_region 1 with fail;obtain⟨W0,hW0⟩: ∃W0,W0=(w.alloc (.cells #[x.id,x.E,x.X,js a1 x.A.length a2,js a3 x.O.length a4,js a5 x.fl.length a6,x.T] 102)).alloc (.cells #[y.id,y.E,y.X,js b1 y.A.length b2,js b3 y.O.length b4,js b5 y.fl.length b6,y.T] 102):=⟨_,rfl⟩;rw[←hW0];have K0:Hid (jb w W0):=by show Below _ _ _;rw[hW0];exact jal.alloc (by simp) _
 have HX0:Hid (jk W0 w.heap.size #[x.id,x.E,x.X,js a1 x.A.length a2,js a3 x.O.length a4,js a5 x.fl.length a6,x.T] 102):=by show _=_;rw[hW0];exact(heap_alloc_old _ _ (by simp)).trans (heap_alloc_new _ _)
 have HY0:Hid (jk W0 (w.heap.size+1) #[y.id,y.E,y.X,js b1 y.A.length b2,js b3 y.O.length b4,js b5 y.fl.length b6,y.T] 102):=by show _=_;rw[hW0];exact heap_alloc2_new _ _ _
 clear hW0;have KR:Hid (jb W0 W0):=Below.refl _ _;have bx:=jm KR HX0;have by_:=jm KR HY0;have xx0:jc W0 w.heap.size 0 x.id:=jr bx;have xx1:jc W0 w.heap.size 1 x.E:=jr bx;have xx2:jc W0 w.heap.size 2 x.X:=jr bx;have xx3:jc W0 w.heap.size 3 (js a1 x.A.length a2):=jr bx;have xx4:jc W0 w.heap.size 4 (js a3 x.O.length a4):=jr bx;have xx5:jc W0 w.heap.size 5 (js a5 x.fl.length a6):=jr bx;have xx6:jc W0 w.heap.size 6 x.T:=jr bx;have yy0:jc W0 (w.heap.size+1) 0 y.id:=jr by_;have yy1:jc W0 (w.heap.size+1) 1 y.E:=jr by_;have yy2:jc W0 (w.heap.size+1) 2 y.X:=jr by_;have yy3:jc W0 (w.heap.size+1) 3 (js b1 y.A.length b2):=jr by_;have yy4:jc W0 (w.heap.size+1) 4 (js b3 y.O.length b4):=jr by_;have yy5:jc W0 (w.heap.size+1) 5 (js b5 y.fl.length b6):=jr by_;have yy6:jc W0 (w.heap.size+1) 6 y.T:=jr by_;have lx:=zad bx;have ly:=zad by_;clear bx by_;by_cases hq0:x.A=y.A
 ·have HQ0:=hI hq0;have HCk:=hI (HC1 W0 (jo K0 KR));rw[show(eqB x.A y.A)=true from decide_eq_true hq0]at HCk;clear hq0;go_wp2_with fail;refine HCk.mono ?_;rintro e W1 ⟨rfl,hb⟩;have HB1:=jh KR hb;clear hb;clear xx0 yy0 xx1 yy1 xx2 yy2 xx3 yy3 xx4 yy4 xx5 yy5 xx6 yy6 lx ly;have bx:=jm HB1 HX0;have by_:=jm HB1 HY0;have xx0:jc W1 w.heap.size 0 x.id:=jr bx;have xx1:jc W1 w.heap.size 1 x.E:=jr bx;have xx2:jc W1 w.heap.size 2 x.X:=jr bx;have xx3:jc W1 w.heap.size 3 (js a1 x.A.length a2):=jr bx;have xx4:jc W1 w.heap.size 4 (js a3 x.O.length a4):=jr bx;have xx5:jc W1 w.heap.size 5 (js a5 x.fl.length a6):=jr bx;have xx6:jc W1 w.heap.size 6 x.T:=jr bx;have yy0:jc W1 (w.heap.size+1) 0 y.id:=jr by_;have yy1:jc W1 (w.heap.size+1) 1 y.E:=jr by_;have yy2:jc W1 (w.heap.size+1) 2 y.X:=jr by_;have yy3:jc W1 (w.heap.size+1) 3 (js b1 y.A.length b2):=jr by_;have yy4:jc W1 (w.heap.size+1) 4 (js b3 y.O.length b4):=jr by_;have yy5:jc W1 (w.heap.size+1) 5 (js b5 y.fl.length b6):=jr by_;have yy6:jc W1 (w.heap.size+1) 6 y.T:=jr by_;have lx:=zad bx;have ly:=zad by_;clear bx by_;by_cases hq1:x.O=y.O
  ·have HQ1:=hI hq1;have HCk:=hI (HC2 W1 (jo K0 HB1));rw[show(eqB x.O y.O)=true from decide_eq_true hq1]at HCk;clear hq1;go_wp2_with fail;refine HCk.mono ?_;rintro e W2 ⟨rfl,hb⟩;have HB2:=jh HB1 hb;clear hb;clear xx0 yy0 xx1 yy1 xx2 yy2 xx3 yy3 xx4 yy4 xx5 yy5 xx6 yy6 lx ly;have bx:=jm HB2 HX0;have by_:=jm HB2 HY0;have xx0:jc W2 w.heap.size 0 x.id:=jr bx;have xx1:jc W2 w.heap.size 1 x.E:=jr bx;have xx2:jc W2 w.heap.size 2 x.X:=jr bx;have xx3:jc W2 w.heap.size 3 (js a1 x.A.length a2):=jr bx;have xx4:jc W2 w.heap.size 4 (js a3 x.O.length a4):=jr bx;have xx5:jc W2 w.heap.size 5 (js a5 x.fl.length a6):=jr bx;have xx6:jc W2 w.heap.size 6 x.T:=jr bx;have yy0:jc W2 (w.heap.size+1) 0 y.id:=jr by_;have yy1:jc W2 (w.heap.size+1) 1 y.E:=jr by_;have yy2:jc W2 (w.heap.size+1) 2 y.X:=jr by_;have yy3:jc W2 (w.heap.size+1) 3 (js b1 y.A.length b2):=jr by_;have yy4:jc W2 (w.heap.size+1) 4 (js b3 y.O.length b4):=jr by_;have yy5:jc W2 (w.heap.size+1) 5 (js b5 y.fl.length b6):=jr by_;have yy6:jc W2 (w.heap.size+1) 6 y.T:=jr by_;have lx:=zad bx;have ly:=zad by_;clear bx by_;by_cases hq2:x.fl=y.fl
   ·have HQ2:=hI hq2;have HCk:=hI (HC3 W2 (jo K0 HB2));rw[show(decide (x.fl=y.fl))=true from decide_eq_true hq2]at HCk;clear hq2;go_wp2_with fail;refine HCk.mono ?_;rintro e W3 ⟨rfl,hb⟩;have HB3:=jh HB2 hb;clear hb;clear xx0 yy0 xx1 yy1 xx2 yy2 xx3 yy3 xx4 yy4 xx5 yy5 xx6 yy6 lx ly;have bx:=jm HB3 HX0;have by_:=jm HB3 HY0;have xx0:jc W3 w.heap.size 0 x.id:=jr bx;have xx1:jc W3 w.heap.size 1 x.E:=jr bx;have xx2:jc W3 w.heap.size 2 x.X:=jr bx;have xx6:jc W3 w.heap.size 6 x.T:=jr bx;have yy0:jc W3 (w.heap.size+1) 0 y.id:=jr by_;have yy1:jc W3 (w.heap.size+1) 1 y.E:=jr by_;have yy2:jc W3 (w.heap.size+1) 2 y.X:=jr by_;have yy6:jc W3 (w.heap.size+1) 6 y.T:=jr by_;clear bx by_;by_cases hq3:x.id=y.id
    ·have tq3:(x.id==y.id)=true:=(by rw[beq_iff_eq];exact hq3);have HQ3:=hI hq3;clear hq3;by_cases hq4:x.E=y.E
     ·have tq4:(x.E==y.E)=true:=(by rw[beq_iff_eq];exact hq4);have HQ4:=hI hq4;clear hq4;by_cases hq5:x.X=y.X
      ·have tq5:(x.X==y.X)=true:=(by rw[beq_iff_eq];exact hq5);have HQ5:=hI hq5;clear hq5;by_cases hq6:x.T=y.T
       ·have tq6:(x.T==y.T)=true:=(by rw[beq_iff_eq];exact hq6);have HQ6:=hI hq6;clear hq6;have HE:Hid (B=true):=HV.1 (zom HQ3 HQ4 HQ5 HQ0 HQ1 HQ2 HQ6);go_wp2_with fail;go_ret;exact⟨by rw[HE.out];rfl,jo K0 HB3⟩
       ·have tq6:(x.T==y.T)=false:=(by rw[beq_eq_false_iff_ne];exact hq6);have HE:Hid (B=false):=HV.2 fun e=>hq6 (by rw[e]);clear hq6;go_wp2_with fail;go_ret;exact⟨by rw[HE.out];rfl,jo K0 HB3⟩
      ·have tq5:(x.X==y.X)=false:=(by rw[beq_eq_false_iff_ne];exact hq5);have HE:Hid (B=false):=HV.2 fun e=>hq5 (by rw[e]);clear hq5;go_wp2_with fail;go_ret;exact⟨by rw[HE.out];rfl,jo K0 HB3⟩
     ·have tq4:(x.E==y.E)=false:=(by rw[beq_eq_false_iff_ne];exact hq4);have HE:Hid (B=false):=HV.2 fun e=>hq4 (by rw[e]);clear hq4;go_wp2_with fail;go_ret;exact⟨by rw[HE.out];rfl,jo K0 HB3⟩
    ·have tq3:(x.id==y.id)=false:=(by rw[beq_eq_false_iff_ne];exact hq3);have HE:Hid (B=false):=HV.2 fun e=>hq3 (by rw[e]);clear hq3;go_wp2_with fail;go_ret;exact⟨by rw[HE.out];rfl,jo K0 HB3⟩
   ·have HE:Hid (B=false):=HV.2 fun e=>hq2 (by rw[e]);have HCk:=hI (HC3 W2 (jo K0 HB2));rw[show(decide (x.fl=y.fl))=false from decide_eq_false hq2]at HCk;clear hq2;go_wp2_with fail;refine HCk.mono ?_;rintro e W3 ⟨rfl,hb⟩;have HB3:=jh HB2 hb;clear hb;clear xx0 yy0 xx1 yy1 xx2 yy2 xx3 yy3 xx4 yy4 xx5 yy5 xx6 yy6 lx ly;have bx:=jm HB3 HX0;have by_:=jm HB3 HY0;clear bx by_;go_wp2_with fail;go_ret;exact⟨by rw[HE.out];rfl,jo K0 HB3⟩
  ·have HE:Hid (B=false):=HV.2 fun e=>hq1 (by rw[e]);have HCk:=hI (HC2 W1 (jo K0 HB1));rw[show(eqB x.O y.O)=false from decide_eq_false hq1]at HCk;clear hq1;go_wp2_with fail;refine HCk.mono ?_;rintro e W2 ⟨rfl,hb⟩;have HB2:=jh HB1 hb;clear hb;clear xx0 yy0 xx1 yy1 xx2 yy2 xx3 yy3 xx4 yy4 xx5 yy5 xx6 yy6 lx ly;have bx:=jm HB2 HX0;have by_:=jm HB2 HY0;clear bx by_;go_wp2_with fail;go_ret;exact⟨by rw[HE.out];rfl,jo K0 HB2⟩
 ·have HE:Hid (B=false):=HV.2 fun e=>hq0 (by rw[e]);have HCk:=hI (HC1 W0 (jo K0 KR));rw[show(eqB x.A y.A)=false from decide_eq_false hq0]at HCk;clear hq0;go_wp2_with fail;refine HCk.mono ?_;rintro e W1 ⟨rfl,hb⟩;have HB1:=jh KR hb;clear hb;clear xx0 yy0 xx1 yy1 xx2 yy2 xx3 yy3 xx4 yy4 xx5 yy5 xx6 yy6 lx ly;have bx:=jm HB1 HX0;have by_:=jm HB1 HY0;clear bx by_;go_wp2_with fail;go_ret;exact⟨by rw[HE.out];rfl,jo K0 HB1⟩
theorem zwf (a b:Option Addr) (ca cb:Nat) (l m:List Sec) (w:World) (hl:SlA w 3 zas a ca l) (hm:SlA w 3 zas b cb m) (h1:l.length≤1000) (h2:m.length≤1000) (he1: ∀i (h:i<l.length),l[i].ends.length≤8796093022208) (he2: ∀i (h:i<m.length),m[i].ends.length≤8796093022208):
  Calls Tryz.prog 140 #[js a l.length ca,js b m.length cb,.func (.func 141) #[] #[]] w (zae w (za6 (fun x y=>decide (x=y)) l m)):=by
 have HL:Hid (∀W,jb w W→SlA W 3 zas a ca l):=fun W hb=>hl.below zbo hb;have HM:Hid (∀W,jb w W→SlA W 3 zas b cb m):=fun W hb=>hm.below zbo hb;have HE1:=hI he1;have HE2:=hI he2;clear he1 he2
 have HV1:Hid (l.length≠m.length→za6 (fun x y=>decide (x=y)) l m=false):=fun h=>by
  cases hh:za6 (fun x y=>decide (x=y)) l m with
  | false=>rfl
  | true=>exact absurd (allEq2_iff.1 hh).1 h
 have HV2:Hid (l.length=m.length→(∀k (h:k<l.length) (h':k<m.length),(fun x y=>decide (x=y)) l[k] m[k]=true)→za6 (fun x y=>decide (x=y)) l m=true):=fun h h3=>allEq2_iff.2 ⟨h,h3⟩
 have HV3:Hid (∀k (h:k<l.length) (h':k<m.length),(fun x y=>decide (x=y)) l[k] m[k]=false→za6 (fun x y=>decide (x=y)) l m=false):=fun k h h' h3=>by
  cases hh:za6 (fun x y=>decide (x=y)) l m with
  | false=>rfl
  | true=>exact absurd (((allEq2_iff.1 hh).2 k h h').symm.trans h3) (by decide)
 clear hl hm;generalize za6 (fun x y=>decide (x=y)) l m=B at *;go_enter Tryz.func140,Tryz.ntmps140;by_cases hlen:l.length=m.length
 ·have HLE:=hI hlen;have td:((l.length:Int)==(m.length:Int))=true:=by rw[beq_iff_eq];omega
  have te:((l.length:Int) != (m.length:Int))=false:=by rw[bne,td];rfl
  clear hlen;go_wp2_with fail;go_loopg [17] l.length (fun g i wr=> ∃k:Nat,k≤l.length∧g=l.length-k∧i= .int .i64 k∧jb w wr∧ ∀j (h:j<l.length) (h':j<m.length),j<k→(fun x y=>decide (x=y)) l[j] m[j]=true)
  case atStart=>exact⟨0,by omega,by omega,rfl,Below.refl _ _,fun j _ _ hj=>absurd hj (Nat.not_lt_zero _)⟩
  case round=>
   obtain⟨k,hk,rfl,rfl,hb,hno⟩:=hrel;have HB:=hI hb;have HNO:=hI hno;clear hb hno;by_cases hlt:k<l.length
   ·have hd:decide ((k:Int)<(l.length:Int))=true:=(by simp;omega);have hlm:k<m.length:=(by rw[←HLE.out];exact hlt);obtain⟨g,off,xa,xc,rfl,x0,x1,x2,hxj⟩:=(HL wr HB).sec hlt;obtain⟨g2,off2,ya,yc,rfl,y0,y1,y2,hyj⟩:=(HM wr HB).sec hlm;have HXJ:Hid (∀W,jb wr W→SlA W 2 RJn xa xc l[k].ends):=fun W hb=>hxj.below zcn hb;have HYJ:Hid (∀W,jb wr W→SlA W 2 RJn ya yc m[k].ends):=fun W hb=>hyj.below zcn hb;have lx:=block_lt_of_cell x0;have ly:=block_lt_of_cell y0;clear hxj hyj;have c0:(0:Int)≤(k:Int):=(by omega);have c1:(k:Int)<(l.length:Int):=(by omega);have c2:(k:Int)<(m.length:Int):=(by omega);go_upto_region 7 with fail;obtain⟨W9,hW9⟩: ∃W9,W9=(wr.alloc (.cells #[l[k].id,l[k].pt,js xa l[k].ends.length xc] 80)).alloc (.cells #[m[k].id,m[k].pt,js ya m[k].ends.length yc] 80):=⟨_,rfl⟩;rw[←hW9];have hb9:jb wr W9:=(by rw[hW9];exact jal.alloc (by simp) _);have hx9:jk W9 wr.heap.size #[l[k].id,l[k].pt,js xa l[k].ends.length xc] 80:=(by rw[hW9];exact(heap_alloc_old _ _ (by simp)).trans (heap_alloc_new _ _));have hy9:jk W9 (wr.heap.size+1) #[m[k].id,m[k].pt,js ya m[k].ends.length yc] 80:=(by rw[hW9];exact heap_alloc2_new _ _ _);have u0x:jc W9 wr.heap.size 0 l[k].id:=jr hx9;have u1x:jc W9 wr.heap.size 1 l[k].pt:=jr hx9;have u2x:jc W9 wr.heap.size 2 (js xa l[k].ends.length xc):=jr hx9;have u0y:jc W9 (wr.heap.size+1) 0 m[k].id:=jr hy9;have u1y:jc W9 (wr.heap.size+1) 1 m[k].pt:=jr hy9;have u2y:jc W9 (wr.heap.size+1) 2 (js ya m[k].ends.length yc):=jr hy9;have HB9:=jh HB hb9;have HBX9:=hI hb9;clear hb9 hx9 hy9 hW9;have HCk:Hid (Calls Tryz.prog 141 #[.agg #[l[k].id,l[k].pt,js xa l[k].ends.length xc],.agg #[m[k].id,m[k].pt,js ya m[k].ends.length yc]] W9 (zae W9 (decide (l[k]=m[k])))):=zwd l[k] m[k] xa ya xc yc W9 (HXJ W9 HBX9) (HYJ W9 HBX9) (HE1 k hlt) (HE2 k hlm);have HV3k:=hI (HV3 k hlt hlm)
    have HNk:Hid ((fun x y=>decide (x=y)) l[k] m[k]=true→ ∀j (h:j<l.length) (h':j<m.length),j<k+1→(fun x y=>decide (x=y)) l[j] m[j]=true):=fun h j j1 j2 j3=>by
     by_cases hjk:j=k
     ·subst hjk;exact h
     ·exact HNO j j1 j2 (by omega)
    simp only[]at HV3k HNk;generalize decide (l[k]=m[k])=bk at *;cases bk with
    | true=>
     go_wp2_with fail;refine HCk.mono ?_;rintro e W3 ⟨rfl,hb⟩;have HB3:=jh HB9 hb;clear hb HCk;go_wp2_with fail;go_roundg (l.length-(k+1))
     case measure=>go_light;omega
     case rel=>go_light;exact⟨k+1,by omega,by omega,by go_num,HB3,HNk (by simp)⟩
    | false=>
     have HE:=hI (HV3k (by simp));go_wp2_with fail;refine HCk.mono ?_;rintro e W3 ⟨rfl,hb⟩;have HB3:=jh HB9 hb;clear hb HCk;go_wp2_with fail;go_ret;exact⟨by rw[HE.out];rfl,HB3⟩
   ·obtain rfl:k=l.length:=(by omega);have HE:Hid (B=true):=HV2 HLE fun j j1 j2=>HNO j j1 j2 j1;go_wp2_with fail;go_ret;exact⟨by rw[HE.out];rfl,HB⟩
 ·have HE:=hI (HV1 hlen);have td:((l.length:Int)==(m.length:Int))=false:=by rw[beq_eq_false_iff_ne];omega
  have te:((l.length:Int) != (m.length:Int))=true:=by rw[bne,td];rfl
  clear hlen;go_wp2_with fail;go_ret;exact⟨by rw[HE.out];rfl,Below.refl _ _⟩
theorem zwg (a b:Option Addr) (ca cb:Nat) (l m:List Rt) (w:World) (hl:SlA w 7 RRt a ca l) (hm:SlA w 7 RRt b cb m) (h1:l.length≤1000) (h2:m.length≤1000) (he1: ∀i (h:i<l.length),l[i].fit) (he2: ∀i (h:i<m.length),m[i].fit):
  Calls Tryz.prog 143 #[js a l.length ca,js b m.length cb,.func (.func 144) #[] #[]] w (zae w (za6 (fun x y=>decide (x=y)) l m)):=by
 have HL:Hid (∀W,jb w W→SlA W 7 RRt a ca l):=fun W hb=>hl.below zcv hb;have HM:Hid (∀W,jb w W→SlA W 7 RRt b cb m):=fun W hb=>hm.below zcv hb;have HE1:=hI he1;have HE2:=hI he2;clear he1 he2
 have HV1:Hid (l.length≠m.length→za6 (fun x y=>decide (x=y)) l m=false):=fun h=>by
  cases hh:za6 (fun x y=>decide (x=y)) l m with
  | false=>rfl
  | true=>exact absurd (allEq2_iff.1 hh).1 h
 have HV2:Hid (l.length=m.length→(∀k (h:k<l.length) (h':k<m.length),(fun x y=>decide (x=y)) l[k] m[k]=true)→za6 (fun x y=>decide (x=y)) l m=true):=fun h h3=>allEq2_iff.2 ⟨h,h3⟩
 have HV3:Hid (∀k (h:k<l.length) (h':k<m.length),(fun x y=>decide (x=y)) l[k] m[k]=false→za6 (fun x y=>decide (x=y)) l m=false):=fun k h h' h3=>by
  cases hh:za6 (fun x y=>decide (x=y)) l m with
  | false=>rfl
  | true=>exact absurd (((allEq2_iff.1 hh).2 k h h').symm.trans h3) (by decide)
 clear hl hm;generalize za6 (fun x y=>decide (x=y)) l m=B at *;go_enter Tryz.func143,Tryz.ntmps143;by_cases hlen:l.length=m.length
 ·have HLE:=hI hlen;have td:((l.length:Int)==(m.length:Int))=true:=by rw[beq_iff_eq];omega
  have te:((l.length:Int) != (m.length:Int))=false:=by rw[bne,td];rfl
  clear hlen;go_wp2_with fail;go_loopg [17] l.length (fun g i wr=> ∃k:Nat,k≤l.length∧g=l.length-k∧i= .int .i64 k∧jb w wr∧ ∀j (h:j<l.length) (h':j<m.length),j<k→(fun x y=>decide (x=y)) l[j] m[j]=true)
  case atStart=>exact⟨0,by omega,by omega,rfl,Below.refl _ _,fun j _ _ hj=>absurd hj (Nat.not_lt_zero _)⟩
  case round=>
   obtain⟨k,hk,rfl,rfl,hb,hno⟩:=hrel;have HB:=hI hb;have HNO:=hI hno;clear hb hno;by_cases hlt:k<l.length
   ·have hd:decide ((k:Int)<(l.length:Int))=true:=(by simp;omega);have hlm:k<m.length:=(by rw[←HLE.out];exact hlt);obtain⟨gx,ofx,xp,xo,xf,rfl,x0,x1,x2,x3,x4,x5,x6,hxm⟩:=(HL wr HB).rt hlt;obtain⟨xp1,xp2,rfl,-⟩:=hxm.A.at_;obtain⟨xo1,xo2,rfl,-⟩:=hxm.O.at_;obtain⟨xf1,xf2,rfl,-⟩:=hxm.fl;have HXJ:Hid (∀W,jb wr W→RtM W (js xp1 l[k].A.length xp2) (js xo1 l[k].O.length xo2) (js xf1 l[k].fl.length xf2) l[k]):=fun W hb=>hxm.below hb;have lx:=block_lt_of_cell x0;clear hxm;obtain⟨gy,ofy,yp,yo,yf,rfl,y0,y1,y2,y3,y4,y5,y6,hym⟩:=(HM wr HB).rt hlm;obtain⟨yp1,yp2,rfl,-⟩:=hym.A.at_;obtain⟨yo1,yo2,rfl,-⟩:=hym.O.at_;obtain⟨yf1,yf2,rfl,-⟩:=hym.fl;have HYJ:Hid (∀W,jb wr W→RtM W (js yp1 m[k].A.length yp2) (js yo1 m[k].O.length yo2) (js yf1 m[k].fl.length yf2) m[k]):=fun W hb=>hym.below hb;have ly:=block_lt_of_cell y0;clear hym;have c0:(0:Int)≤(k:Int):=(by omega);have c1:(k:Int)<(l.length:Int):=(by omega);have c2:(k:Int)<(m.length:Int):=(by omega);go_upto_region 7 with fail;obtain⟨W9,hW9⟩: ∃W9,W9=(wr.alloc (.cells #[l[k].id,l[k].E,l[k].X,js xp1 l[k].A.length xp2,js xo1 l[k].O.length xo2,js xf1 l[k].fl.length xf2,l[k].T] 102)).alloc (.cells #[m[k].id,m[k].E,m[k].X,js yp1 m[k].A.length yp2,js yo1 m[k].O.length yo2,js yf1 m[k].fl.length yf2,m[k].T] 102):=⟨_,rfl⟩;rw[←hW9];have hb9:jb wr W9:=(by rw[hW9];exact jal.alloc (by simp) _);have hx9:jk W9 wr.heap.size #[l[k].id,l[k].E,l[k].X,js xp1 l[k].A.length xp2,js xo1 l[k].O.length xo2,js xf1 l[k].fl.length xf2,l[k].T] 102:=(by rw[hW9];exact(heap_alloc_old _ _ (by simp)).trans (heap_alloc_new _ _));have hy9:jk W9 (wr.heap.size+1) #[m[k].id,m[k].E,m[k].X,js yp1 m[k].A.length yp2,js yo1 m[k].O.length yo2,js yf1 m[k].fl.length yf2,m[k].T] 102:=(by rw[hW9];exact heap_alloc2_new _ _ _);have u0x:jc W9 wr.heap.size 0 l[k].id:=jr hx9;have u1x:jc W9 wr.heap.size 1 l[k].E:=jr hx9;have u2x:jc W9 wr.heap.size 2 l[k].X:=jr hx9;have u3x:jc W9 wr.heap.size 3 (js xp1 l[k].A.length xp2):=jr hx9;have u4x:jc W9 wr.heap.size 4 (js xo1 l[k].O.length xo2):=jr hx9;have u5x:jc W9 wr.heap.size 5 (js xf1 l[k].fl.length xf2):=jr hx9;have u6x:jc W9 wr.heap.size 6 l[k].T:=jr hx9
    have u0y:jc W9 (wr.heap.size+1) 0 m[k].id:=jr hy9;have u1y:jc W9 (wr.heap.size+1) 1 m[k].E:=jr hy9;have u2y:jc W9 (wr.heap.size+1) 2 m[k].X:=jr hy9;have u3y:jc W9 (wr.heap.size+1) 3 (js yp1 m[k].A.length yp2):=jr hy9;have u4y:jc W9 (wr.heap.size+1) 4 (js yo1 m[k].O.length yo2):=jr hy9;have u5y:jc W9 (wr.heap.size+1) 5 (js yf1 m[k].fl.length yf2):=jr hy9;have u6y:jc W9 (wr.heap.size+1) 6 m[k].T:=jr hy9;have HB9:=jh HB hb9;have HBX9:=hI hb9;clear hb9 hx9 hy9 hW9;have HCk:Hid (Calls Tryz.prog 144 #[.agg #[l[k].id,l[k].E,l[k].X,js xp1 l[k].A.length xp2,js xo1 l[k].O.length xo2,js xf1 l[k].fl.length xf2,l[k].T],.agg #[m[k].id,m[k].E,m[k].X,js yp1 m[k].A.length yp2,js yo1 m[k].O.length yo2,js yf1 m[k].fl.length yf2,m[k].T]] W9 (zae W9 (decide (l[k]=m[k])))):=zwe l[k] m[k] xp1 xo1 xf1 yp1 yo1 yf1 xp2 xo2 xf2 yp2 yo2 yf2 W9 (HXJ W9 HBX9) (HYJ W9 HBX9) (HE1 k hlt) (HE2 k hlm);have HV3k:=hI (HV3 k hlt hlm)
    have HNk:Hid ((fun x y=>decide (x=y)) l[k] m[k]=true→ ∀j (h:j<l.length) (h':j<m.length),j<k+1→(fun x y=>decide (x=y)) l[j] m[j]=true):=fun h j j1 j2 j3=>by
     by_cases hjk:j=k
     ·subst hjk;exact h
     ·exact HNO j j1 j2 (by omega)
    simp only[]at HV3k HNk;generalize decide (l[k]=m[k])=bk at *;cases bk with
    | true=>
     go_wp2_with fail;refine HCk.mono ?_;rintro e W3 ⟨rfl,hb⟩;have HB3:=jh HB9 hb;clear hb HCk;go_wp2_with fail;go_roundg (l.length-(k+1))
     case measure=>go_light;omega
     case rel=>go_light;exact⟨k+1,by omega,by omega,by go_num,HB3,HNk (by simp)⟩
    | false=>
     have HE:=hI (HV3k (by simp));go_wp2_with fail;refine HCk.mono ?_;rintro e W3 ⟨rfl,hb⟩;have HB3:=jh HB9 hb;clear hb HCk;go_wp2_with fail;go_ret;exact⟨by rw[HE.out];rfl,HB3⟩
   ·obtain rfl:k=l.length:=(by omega);have HE:Hid (B=true):=HV2 HLE fun j j1 j2=>HNO j j1 j2 j1;go_wp2_with fail;go_ret;exact⟨by rw[HE.out];rfl,HB⟩
 ·have HE:=hI (HV1 hlen);have td:((l.length:Int)==(m.length:Int))=false:=by rw[beq_eq_false_iff_ne];omega
  have te:((l.length:Int) != (m.length:Int))=true:=by rw[bne,td];rfl
  clear hlen;go_wp2_with fail;go_ret;exact⟨by rw[HE.out];rfl,Below.refl _ _⟩
end Go.Proofs.YtbiehpjhhopjaaaGreat
