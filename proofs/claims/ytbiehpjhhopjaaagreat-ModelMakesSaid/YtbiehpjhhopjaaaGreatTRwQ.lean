/-
 A route's way,and what it holds,as the references have it,walked. (Written by wip/tools/gen_rwn.py.)
-/
import Derived.Test.YtbiehpjhhopjaaaGreatTRwJ
import Derived.Test.YtbiehpjhhopjaaaGreatTRwE
import Derived.Test.YtbiehpjhhopjaaaGreatTStateE
import Derived.Test.YtbiehpjhhopjaaaGreatTRefA
import Derived.Test.YtbiehpjhhopjaaaGreatTImgB
set_option linter.unusedVariables false
set_option linter.unusedSimpArgs false
set_option maxRecDepth 100000
set_option maxHeartbeats 16000000
namespace Go.Proofs.YtbiehpjhhopjaaaGreat
open Go.RowKit Go.Sort
theorem zpl (p:Pl) (s q gg rr:Value) (kk:Nat) (hkk:kk<p.R.length) (w:World) (hp:PlM w s q gg rr p) (hf:p.Fit) (hPM:zaq p) (x:Rw) (hx:zbp p p.R[kk]=some x):
  Calls Tryz.prog 316 #[plV p s q gg rr,kk] w (zhe w p.R[kk] (zci p p.R[kk] x) (zbe p p.R[kk].E).sec):=by
 have HM:Hid (∀W,jb w W→Calls Tryz.prog 217 #[plV p s q gg rr,kk] W (zhe W p.R[kk] (zci p p.R[kk] x) (zbe p p.R[kk].E).sec)):=fun W hb=>zpk p s q gg rr kk hkk W (hp.below hb) hf hPM x hx;obtain⟨a1,k1,rfl,-⟩:=hp.S;obtain⟨a2,k2,rfl,-⟩:=hp.P;obtain⟨a3,k3,rfl,-⟩:=hp.G;obtain⟨a4,k4,rfl,-⟩:=hp.R;clear hp hf hPM hx;generalize zci p p.R[kk] x=MA at *;generalize(zbe p p.R[kk].E).sec=near at *;generalize p.R[kk]=r at *;unfold plV at *;go_enter Tryz.func316,Tryz.ntmps316;go_upto_region 1 with fail;generalize hW0:World.alloc _ _=W0;have K0:Hid (jb w W0):=by show Below _ _ _;rw[←hW0];exact jal.alloc (by simp) _
 have hx0:jk W0 w.heap.size #[p.ver,p.par,js a1 p.S.length k1,js a2 p.P.length k2,js a3 p.G.length k3,js a4 p.R.length k4] 28:=by rw[←hW0];exact(heap_alloc_old _ _ (by simp)).trans (heap_alloc_new _ _)
 have HZ0:Hid (jk W0 (w.heap.size+1) #[.slice none 0 0,.slice none 0 0,.slice none 0 0,.int .i64 0] 184):=by show _=_;rw[←hW0];exact heap_alloc2_new _ _ _
 clear hW0;obtain⟨pp0,pp1,pp2,pp3,pp4,pp5⟩:=zan (hx0);clear hx0;go_wp2_with fail;refine(HM.out W0 K0.out).mono ?_;rintro e W1 ⟨q1,q3,n1,n3,m1,m3,rfl,o1,o2,o3,hb1⟩;have HO1:=hI o1;have HO2:=hI o2;have HO3:=hI o3;have hz:=jm hb1 HZ0.out;have ff: ∀o,W1.frozen? ⟨w.heap.size+1,o,none⟩=false:=fun o=>by simp[World.frozen?,hz]
 have lz:=zad hz;have hlt:w.heap.size+1<W0.heap.size:=zad HZ0.out;have K1:=jh K0 hb1;obtain⟨z0,z1,z2,z3⟩:=zfv (hz);clear o1 o2 o3 hz hb1 pp0 pp1 pp2 pp3 pp4 pp5;go_wp2_with fail;generalize hWE:World.setCell _ _ _=WE;have e0:jc WE (w.heap.size+1) 0 (js q1 r.A.length q3):=by rw[←hWE];simp[go_sem,lz,z0,z1,z2,z3]
 have e1:jc WE (w.heap.size+1) 1 (js n1 r.O.length n3):=by rw[←hWE];simp[go_sem,lz,z0,z1,z2,z3]
 have e2:jc WE (w.heap.size+1) 2 (js m1 MA.length m3):=by rw[←hWE];simp[go_sem,lz,z0,z1,z2,z3]
 have e3:jc WE (w.heap.size+1) 3 near:=by rw[←hWE];simp[go_sem,lz,z0,z1,z2,z3]
 have KB:Hid (jb w WE):=by show Below _ _ _;rw[←hWE];exact Below.setCell (Below.setCell (Below.setCell (Below.setCell (K1.out) (by simp) _) (by simp) _) (by simp) _) (by simp) _
 have M1:Hid (IntOwn WE W0.heap.size (js q1 r.A.length q3) r.A):=by show IntOwn _ _ _ _;rw[←hWE];exact zag (zag (zag (zag (HO1.out) hlt _) hlt _) hlt _) hlt _
 have M2:Hid (IntOwn WE W0.heap.size (js n1 r.O.length n3) r.O):=by show IntOwn _ _ _ _;rw[←hWE];exact zag (zag (zag (zag (HO2.out) hlt _) hlt _) hlt _) hlt _
 have M3:Hid (AskOwn WE W0.heap.size (js m1 MA.length m3) MA):=by show AskOwn _ _ _ _;rw[←hWE];exact zag (zag (zag (zag (HO3.out) hlt _) hlt _) hlt _) hlt _
 clear hWE;refine bodyPost_ret (v:= .agg #[js q1 r.A.length q3,js n1 r.O.length n3,js m1 MA.length m3,near]) (by simp[results,Tryz.f316,go_sem,e0,e1,e2,e3]) rfl ?_;exact⟨q1,q3,n1,n3,m1,m3,rfl,zav M1.out K0.out.size,zav M2.out K0.out.size,zav M3.out K0.out.size,KB.out⟩
def zf9 (r:Rt) (l:Lk):List Int:=if l.ph=0 then []else r.A.drop (min (max l.gone 0).toNat r.A.length)++r.O
theorem zpm (p:Pl) (r:Rt) (l:Lk):zc0 (zao p r) l=zf9 r l:=rfl
theorem zpn (n:Int): ∀u∈[Value.int .i64 n],u.oneCell'=true:=by simp[Value.oneCell']
theorem zpo {l:List Int}{n:Nat}:l.drop (min n l.length)=l.drop n:=by
 rcases Nat.le_total n l.length with h | h
 ·rw[Nat.min_eq_left h]
 ·rw[Nat.min_eq_right h,List.drop_eq_nil_of_le (Nat.le_refl _),List.drop_eq_nil_of_le h]
theorem zpp {l:List Int}{k G:Nat}(h:k<l.length) (hG:G≤k):(l.take (k+1)).drop G=(l.take k).drop G++[l[k]]:=by
 rw[List.take_succ_eq_append_getElem h,List.drop_append_of_le_length (by rw[List.length_take];omega)]
theorem zxa (p:Pl) (s q gg rr:Value) (kk:Nat) (hkk:kk<p.R.length) (l:Lk) (w:World) (hp:PlM w s q gg rr p) (hf:p.Fit) (hPM:zaq p) (x:Rw) (hx:zbp p p.R[kk]=some x):
  Calls Tryz.prog 221 #[plV p s q gg rr,.agg #[l.id,.int .u8 l.ph,l.gone,l.left],kk] w (zjg w (zf9 p.R[kk] l)):=by
 have HM:Hid (∀W,jb w W→Calls Tryz.prog 316 #[plV p s q gg rr,kk] W (zhe W p.R[kk] (zci p p.R[kk] x) (zbe p p.R[kk].E).sec)):=fun W hb=>zpl p s q gg rr kk hkk W (hp.below hb) hf hPM x hx;have hHd:=(zfe hPM hkk).1;have hp6:=hHd.2.2.2.2.1;have ho2:=hHd.2.2.2.2.2.1;obtain⟨a1,k1,rfl,-⟩:=hp.S;obtain⟨a2,k2,rfl,-⟩:=hp.P;obtain⟨a3,k3,rfl,-⟩:=hp.G;obtain⟨a4,k4,rfl,-⟩:=hp.R;clear hp hf hPM hx hHd;generalize zci p p.R[kk] x=MA at *;generalize(zbe p p.R[kk].E).sec=near at *;generalize p.R[kk]=r at *;unfold plV at *;go_enter Tryz.func221,Tryz.ntmps221;go_upto_region 1 with fail;generalize hW0:World.alloc _ _=W0;have K0:Hid (jb w W0):=by show Below _ _ _;rw[←hW0];exact jal.alloc (by simp) _
 have hx0:jk W0 w.heap.size #[p.ver,p.par,js a1 p.S.length k1,js a2 p.P.length k2,js a3 p.G.length k3,js a4 p.R.length k4] 28:=by rw[←hW0];exact(heap_alloc_old _ _ (by simp)).trans (heap_alloc_new _ _)
 have HL0:Hid (jk W0 (w.heap.size+1) #[l.id,.int .u8 l.ph,l.gone,l.left] 99):=by show _=_;rw[←hW0];exact heap_alloc2_new _ _ _
 clear hW0;obtain⟨pp0,pp1,pp2,pp3,pp4,pp5⟩:=zan (hx0);have ll1:jc W0 (w.heap.size+1) 1 (.int .u8 l.ph):=jr (HL0.out);have lb:=block_lt_of_cell pp0;have lc:=block_lt_of_cell ll1;clear hx0;by_cases hph:l.ph=0
 ·have r1:(l.ph==0)=true:=by simp[hph]
  have HE:Hid (zf9 r l=[]):=by show _=_;unfold zf9;rw[if_pos hph]
  clear hph;go_wp2_with fail;go_ret;refine⟨none,0,by rw[HE.out];rfl,?_,K0.out⟩;rw[HE.out];exact zfs _ _
 ·have r1:(l.ph==0)=false:=by simp[hph]
  have HE:Hid (zf9 r l=r.A.drop (min (max l.gone 0).toNat r.A.length)++r.O):=by show _=_;unfold zf9;rw[if_neg hph]
  clear hph;generalize zf9 r l=HH at *;go_wp2_with fail;refine(HM.out W0 K0.out).mono ?_;rintro e W1 ⟨q1,q3,n1,n3,m1,m3,rfl,o1,o2,o3,hb1⟩;go_upto_region 4 with fail;generalize hW2:World.alloc _ _=W2;have hb2:jb W1 W2:=by rw[←hW2];exact jal
  have hw2:jk W2 W1.heap.size #[js q1 r.A.length q3,js n1 r.O.length n3,js m1 MA.length m3,near] 184:=by rw[←hW2];exact heap_alloc_new _ _
  have K2:Hid (jb w W2):=K0.out.trans ((jt hb1 hb2).mono K0.out.size);have HW2:=hI hw2;have HP2:=hI (IntOwn.il (zau o1 hb2));have HO2:=hI (IntOwn.il (zau o2 hb2));have hl2:=((jt hb1 hb2).block _ (zad HL0.out)).trans HL0.out;clear o1 o2 o3 hb1 hb2 hW2 hw2 pp0 pp1 pp2 pp3 pp4 pp5 ll1 lb lc;have ll2:jc W2 (w.heap.size+1) 2 l.gone:=jr hl2;have lc:=block_lt_of_cell ll2;clear hl2;have HZ2:Hid (w.heap.size≤W2.heap.size):=K2.out.size;by_cases hg0:0≤l.gone
  ·obtain⟨G,hG⟩: ∃G:Nat,l.gone=(G:Int):=⟨l.gone.toNat,by omega⟩
   have HG:Hid (HH=r.A.drop G++r.O):=by
    show _=_;rw[HE.out,zpo]
    congr 2
    omega
   clear HE hg0;rw[hG]at ll2;go_wp2_with fail;go_loopg [8,9] (r.A.length-G) (fun g v i wr=> ∃(k:Nat) (b:Option Addr) (d:Nat),G≤k∧g=r.A.length-k∧v= .slice b ((r.A.take k).drop G).length d∧i= .int .i64 k∧jb W2 wr∧IntOwn wr W2.heap.size (js b ((r.A.take k).drop G).length d) ((r.A.take k).drop G))
   case atStart=>
    have h0:(r.A.take G).drop G=[]:=List.drop_eq_nil_of_le (by rw[List.length_take];omega);exact⟨G,none,0,by omega,rfl,by rw[h0];rfl,rfl,Below.refl _ _,by rw[h0];exact zfs _ _⟩
   case round=>
    obtain⟨k,b,d,hGk,rfl,rfl,rfl,hb,ho⟩:=hrel;have hrow:=jm hb HW2.out;have e0:jc wr W1.heap.size 0 (js q1 r.A.length q3):=jr hrow;have e1:jc wr W1.heap.size 1 (js n1 r.O.length n3):=jr hrow;have le:=block_lt_of_cell e0;have HB:=hI hb;have HO:=hI ho;have hwr:W2.heap.size≤wr.heap.size:=hb.size;have HPr:=hI (HP2.out.below hb);have HOr:=hI (HO2.out.below hb);clear hb ho hrow;have hfl:((r.A.take k).drop G).length≤1000:=(by rw[List.length_drop,List.length_take];omega);by_cases hlt:k<r.A.length
    ·have hd:decide ((k:Int)<(r.A.length:Int))=true:=(by simp;omega);have hst:=hI (zpp (G:=G) hlt hGk);obtain⟨g,off,rfl,x0⟩:=HPr.out.cell k hlt;have c0:(0:Int)≤(k:Int):=(by omega);have c1:(k:Int)<(r.A.length:Int):=(by omega);generalize(r.A.take k).drop G=FK at *;have O1:Hid (wr.ownsRow W2.heap.size 3 1 (js b FK.length d) FK.length (FK.map (.int .i64))):=HO;clear HO;go_wp2_with (at_builtin;refine zey rfl _ _ 54 3 3 _ 1 8 rfl Tryz.underlying54 zg3 rfl (by decide) (by decide) W2.heap.size (js b FK.length d) FK.length _ rfl O1.out hfl hwr [.int .i64 r.A[k]] rfl rfl (zpn _) ?_;intro b8 c8 w8 hown8 hgr8);have hB8:jb W2 w8:=(HB.out.alloc hwr _).trans (zcw (O1.out.alloc _) (Nat.le_refl _) (by simp;omega) hgr8)
     have ho8:IntOwn w8 W2.heap.size (jq b8 0 (FK.length+1) c8) (FK++[r.A[k]]):=by
      show World.ownsRow _ _ _ _ _ _ _;rw[List.length_append,List.map_append];exact hown8
     go_roundg (r.A.length-(k+1))
     case measure=>go_light;omega
     case rel=>go_light;exact⟨k+1,some ⟨b8,0,none⟩,c8,by omega,by omega,by rw[hst.out];simp,by go_num,hB8,by rw[hst.out];simpa using ho8⟩
    ·have hd:decide ((k:Int)<(r.A.length:Int))=false:=(by simp;omega);have hall:r.A.take k=r.A:=List.take_of_length_le (by omega);rw[hall]at HO hfl ⊢;have hl:(r.A.drop G).length+r.O.length≤17592186044416:=(by rw[List.length_drop];omega);generalize r.A.drop G=FK at *;go_wp2_with (at_builtin;refine zgk rfl _ _ rfl W2.heap.size (js b FK.length d) FK rfl HO.out n1 n3 r.O rfl HOr.out hl hwr ?_;intro a4 c4 w4 hown4 hgr4);have HF:=hI hown4;have HFB:=hI (HB.out.trans (zcw HO.out (Nat.le_refl _) hwr hgr4));go_ret;exact⟨a4,c4,by rw[HG.out,List.length_append];rfl,by rw[HG.out];exact zav HF.out HZ2.out,K2.out.trans (HFB.out.mono HZ2.out)⟩
  ·have hg1:l.gone<0:=(by omega);have hmx:max l.gone 0=0:=by omega
   have HG:Hid (HH=r.A.drop 0++r.O):=by
    show _=_;rw[HE.out,zpo]
    congr 2
    omega
   clear HE;go_wp2_with fail;go_loopg [8,9] (r.A.length-0) (fun g v i wr=> ∃(k:Nat) (b:Option Addr) (d:Nat),0≤k∧g=r.A.length-k∧v= .slice b ((r.A.take k).drop 0).length d∧i= .int .i64 k∧jb W2 wr∧IntOwn wr W2.heap.size (js b ((r.A.take k).drop 0).length d) ((r.A.take k).drop 0))
   case atStart=>
    have h0:(r.A.take 0).drop 0=[]:=List.drop_eq_nil_of_le (by rw[List.length_take];omega);exact⟨0,none,0,by omega,rfl,by rw[h0];rfl,rfl,Below.refl _ _,by rw[h0];exact zfs _ _⟩
   case round=>
    obtain⟨k,b,d,hGk,rfl,rfl,rfl,hb,ho⟩:=hrel;have hrow:=jm hb HW2.out;have e0:jc wr W1.heap.size 0 (js q1 r.A.length q3):=jr hrow;have e1:jc wr W1.heap.size 1 (js n1 r.O.length n3):=jr hrow;have le:=block_lt_of_cell e0;have HB:=hI hb;have HO:=hI ho;have hwr:W2.heap.size≤wr.heap.size:=hb.size;have HPr:=hI (HP2.out.below hb);have HOr:=hI (HO2.out.below hb);clear hb ho hrow;have hfl:((r.A.take k).drop 0).length≤1000:=(by rw[List.length_drop,List.length_take];omega);by_cases hlt:k<r.A.length
    ·have hd:decide ((k:Int)<(r.A.length:Int))=true:=(by simp;omega);have hst:=hI (zpp (G:=0) hlt hGk);obtain⟨g,off,rfl,x0⟩:=HPr.out.cell k hlt;have c0:(0:Int)≤(k:Int):=(by omega);have c1:(k:Int)<(r.A.length:Int):=(by omega);generalize(r.A.take k).drop 0=FK at *;have O1:Hid (wr.ownsRow W2.heap.size 3 1 (js b FK.length d) FK.length (FK.map (.int .i64))):=HO;clear HO;go_wp2_with (at_builtin;refine zey rfl _ _ 54 3 3 _ 1 8 rfl Tryz.underlying54 zg3 rfl (by decide) (by decide) W2.heap.size (js b FK.length d) FK.length _ rfl O1.out hfl hwr [.int .i64 r.A[k]] rfl rfl (zpn _) ?_;intro b8 c8 w8 hown8 hgr8);have hB8:jb W2 w8:=(HB.out.alloc hwr _).trans (zcw (O1.out.alloc _) (Nat.le_refl _) (by simp;omega) hgr8)
     have ho8:IntOwn w8 W2.heap.size (jq b8 0 (FK.length+1) c8) (FK++[r.A[k]]):=by
      show World.ownsRow _ _ _ _ _ _ _;rw[List.length_append,List.map_append];exact hown8
     go_roundg (r.A.length-(k+1))
     case measure=>go_light;omega
     case rel=>go_light;exact⟨k+1,some ⟨b8,0,none⟩,c8,by omega,by omega,by rw[hst.out];simp,by go_num,hB8,by rw[hst.out];simpa using ho8⟩
    ·have hd:decide ((k:Int)<(r.A.length:Int))=false:=(by simp;omega);have hall:r.A.take k=r.A:=List.take_of_length_le (by omega);rw[hall]at HO hfl ⊢;have hl:(r.A.drop 0).length+r.O.length≤17592186044416:=(by rw[List.length_drop];omega);generalize r.A.drop 0=FK at *;go_wp2_with (at_builtin;refine zgk rfl _ _ rfl W2.heap.size (js b FK.length d) FK rfl HO.out n1 n3 r.O rfl HOr.out hl hwr ?_;intro a4 c4 w4 hown4 hgr4);have HF:=hI hown4;have HFB:=hI (HB.out.trans (zcw HO.out (Nat.le_refl _) hwr hgr4));go_ret;exact⟨a4,c4,by rw[HG.out,List.length_append];rfl,by rw[HG.out];exact zav HF.out HZ2.out,K2.out.trans (HFB.out.mono HZ2.out)⟩
def zdr (n:Int) (a:Ask):Bool:=decide (a.pl<0∨n≤a.pl)
def ze7 (MA:List Ask) (l:Lk):List Ask:=if l.ph=0 then []else MA.filter (zdr l.gone)
theorem zxb (w:Wy) (l:Lk):zc8 w l=ze7 w.asks l:=rfl
def zpq (w:World) (l:List Ask) (e:Ending) (w':World):Prop:= ∃a c,e= .returned (js a l.length c)∧AskOwn w' w.heap.size (js a l.length c) l∧jb w w'
theorem zxc (x:Ask): ∀u∈[Value.int .i64 x.pt,.int .i64 x.lie,.int .i64 x.pl],u.oneCell'=true:=by simp[Value.oneCell']
theorem zxd {α:Type}{pr:α→Bool}{l:List α}{k:Nat}(h:k<l.length) (hp:pr l[k]=true):(l.take (k+1)).filter pr=(l.take k).filter pr++[l[k]]:=by
 rw[List.take_succ_eq_append_getElem h,List.filter_append,List.filter_cons_of_pos hp,List.filter_nil]
theorem zxe {α:Type}{pr:α→Bool}{l:List α}{k:Nat}(h:k<l.length) (hp:pr l[k]=false):(l.take (k+1)).filter pr=(l.take k).filter pr:=by
 rw[List.take_succ_eq_append_getElem h,List.filter_append,List.filter_cons_of_neg (by simp[hp]),List.filter_nil,List.append_nil]
theorem zlk {p:Pl}(hPM:zaq p){k:Nat}(hk:k<p.R.length) (x:Rw):(zci p p.R[k] x).length≤1000:=by
 have h:=(zfe hPM hk).1;have h6:=h.2.2.2.2.1;have h2:=h.2.2.2.2.2.1;have h3:=h.2.2.2.2.2.2.1;have:=zlj p p.R[k] x.ins x.outs (zaa p.R[k]).length;unfold zci;rw[List.length_append,List.length_map];have:(zaa p.R[k]).length=p.R[k].A.length+p.R[k].O.length:=List.length_append;omega
theorem zxf (p:Pl) (s q gg rr:Value) (kk:Nat) (hkk:kk<p.R.length) (l:Lk) (w:World) (hp:PlM w s q gg rr p) (hf:p.Fit) (hPM:zaq p) (x:Rw) (hx:zbp p p.R[kk]=some x):
  Calls Tryz.prog 222 #[plV p s q gg rr,.agg #[l.id,.int .u8 l.ph,l.gone,l.left],kk] w (zpq w (ze7 (zci p p.R[kk] x) l)):=by
 have HM:Hid (∀W,jb w W→Calls Tryz.prog 316 #[plV p s q gg rr,kk] W (zhe W p.R[kk] (zci p p.R[kk] x) (zbe p p.R[kk].E).sec)):=fun W hb=>zpl p s q gg rr kk hkk W (hp.below hb) hf hPM x hx;have hma:=zlk hPM hkk x;obtain⟨a1,k1,rfl,-⟩:=hp.S;obtain⟨a2,k2,rfl,-⟩:=hp.P;obtain⟨a3,k3,rfl,-⟩:=hp.G;obtain⟨a4,k4,rfl,-⟩:=hp.R;clear hp hf hPM hx;generalize zci p p.R[kk] x=MA at *;generalize(zbe p p.R[kk].E).sec=near at *;generalize p.R[kk]=r at *;unfold plV at *;go_enter Tryz.func222,Tryz.ntmps222;go_upto_region 1 with fail;generalize hW0:World.alloc _ _=W0;have K0:Hid (jb w W0):=by show Below _ _ _;rw[←hW0];exact jal.alloc (by simp) _
 have hx0:jk W0 w.heap.size #[p.ver,p.par,js a1 p.S.length k1,js a2 p.P.length k2,js a3 p.G.length k3,js a4 p.R.length k4] 28:=by rw[←hW0];exact(heap_alloc_old _ _ (by simp)).trans (heap_alloc_new _ _)
 have HL0:Hid (jk W0 (w.heap.size+1) #[l.id,.int .u8 l.ph,l.gone,l.left] 99):=by show _=_;rw[←hW0];exact heap_alloc2_new _ _ _
 clear hW0;obtain⟨pp0,pp1,pp2,pp3,pp4,pp5⟩:=zan (hx0);have ll1:jc W0 (w.heap.size+1) 1 (.int .u8 l.ph):=jr (HL0.out);have lb:=block_lt_of_cell pp0;have lc:=block_lt_of_cell ll1;clear hx0;by_cases hph:l.ph=0
 ·have r1:(l.ph==0)=true:=by simp[hph]
  have HE:Hid (ze7 MA l=[]):=by show _=_;unfold ze7;rw[if_pos hph]
  clear hph;go_wp2_with fail;go_ret;refine⟨none,0,by rw[HE.out];rfl,?_,K0.out⟩;rw[HE.out];exact AskOwn.nil _ _
 ·have r1:(l.ph==0)=false:=by simp[hph]
  have HE:Hid (ze7 MA l=MA.filter (zdr l.gone)):=by show _=_;unfold ze7;rw[if_neg hph]
  clear hph;generalize ze7 MA l=HH at *;go_wp2_with fail;refine(HM.out W0 K0.out).mono ?_;rintro e W1 ⟨q1,q3,n1,n3,m1,m3,rfl,o1,o2,o3,hb1⟩;go_upto_region 4 with fail;generalize hW2:World.alloc _ _=W2;have hb2:jb W1 W2:=by rw[←hW2];exact jal
  have hw2:jk W2 W1.heap.size #[js q1 r.A.length q3,js n1 r.O.length n3,js m1 MA.length m3,near] 184:=by rw[←hW2];exact heap_alloc_new _ _
  have K2:Hid (jb w W2):=K0.out.trans ((jt hb1 hb2).mono K0.out.size);have HW2:=hI hw2
  have HA2:Hid (SlA W2 3 ze1 m1 m3 MA):=by
   obtain⟨a',c',e',h'⟩:=AskOwn.sl (zau o3 hb2);cases e';exact h'
  have HL2:=hI (((jt hb1 hb2).block _ (zad HL0.out)).trans HL0.out);clear o1 o2 o3 hb1 hb2 hW2 hw2 pp0 pp1 pp2 pp3 pp4 pp5 ll1 lb lc;have HZ2:Hid (w.heap.size≤W2.heap.size):=K2.out.size;go_wp2_with fail;go_loopg [8,9] MA.length (fun g v i wr=> ∃(k:Nat) (b:Option Addr) (d:Nat),k≤MA.length∧g=MA.length-k∧v= .slice b ((MA.take k).filter (zdr l.gone)).length d∧i= .int .i64 k∧jb W2 wr∧AskOwn wr W2.heap.size (js b ((MA.take k).filter (zdr l.gone)).length d) ((MA.take k).filter (zdr l.gone)))
  case atStart=>exact⟨0,none,0,by omega,by omega,rfl,rfl,Below.refl _ _,AskOwn.nil _ _⟩
  case round=>
   obtain⟨k,b,d,hk,rfl,rfl,rfl,hb,ho⟩:=hrel;have hrow:=jm hb HW2.out;have hrow2:=jm hb HL2.out;have e2:jc wr W1.heap.size 2 (js m1 MA.length m3):=jr hrow;have f2:jc wr (w.heap.size+1) 2 l.gone:=jr hrow2;have le:=block_lt_of_cell e2;have lf:=block_lt_of_cell f2;have HB:=hI hb;have HO:=hI ho;have hwr:W2.heap.size≤wr.heap.size:=hb.size;have HAr:=hI (HA2.out.below zil hb);clear hb ho hrow hrow2;have hfl:((MA.take k).filter (zdr l.gone)).length≤1000:=Nat.le_trans (List.length_filter_le _ _) (by rw[List.length_take];omega);by_cases hlt:k<MA.length
   ·have hd:decide ((k:Int)<(MA.length:Int))=true:=(by simp;omega);obtain⟨g,off,vs,rfl,hvl,hvc,hvr⟩:=HAr.out.at_ k hlt;obtain rfl:vs=[.int .i64 MA[k].pt,.int .i64 MA[k].lie,.int .i64 MA[k].pl]:=hvr;have x0:jc wr g (off+k * 3) MA[k].pt:=hvc 0 (by simp);have x1:jc wr g (off+k * 3+1) MA[k].lie:=hvc 1 (by simp);have x2:jc wr g (off+k * 3+2) MA[k].pl:=hvc 2 (by simp);have lx:=block_lt_of_cell x0;clear hvc hvl;have c0:(0:Int)≤(k:Int):=(by omega);have c1:(k:Int)<(MA.length:Int):=(by omega);obtain⟨D,hD⟩: ∃D:Bool,D=zdr l.gone MA[k]:=⟨_,rfl⟩;have HD:=hI hD;clear hD;go_upto_region 8 with fail;go_cut [40]from 23 to 40 (fun v wc=>v= .bool D∧jb wr wc)
    case first=>
     by_cases ha:MA[k].pl<0
     ·have t1:decide (MA[k].pl<0)=true:=(by simp[ha]);have HV:Hid (D=true):=(by show _=_;rw[HD.out];unfold zdr;simp[ha]);clear ha;go_quiet (fail);go_wp2_with fail;go_meet
      case rel=>exact⟨by rw[HV.out],zal (Below.refl _ _) _⟩
     ·have t1:decide (MA[k].pl<0)=false:=(by simp[ha]);by_cases hc:l.gone≤MA[k].pl
      ·have t2:decide (l.gone≤MA[k].pl)=true:=(by simp[hc]);have HV:Hid (D=true):=(by show _=_;rw[HD.out];unfold zdr;simp[hc]);clear ha;go_quiet (fail);go_wp2_with fail;go_meet
       case rel=>exact⟨by rw[HV.out],zal (Below.refl _ _) _⟩
      ·have t2:decide (l.gone≤MA[k].pl)=false:=(by simp[hc]);have HV:Hid (D=false):=(by show _=_;rw[HD.out];unfold zdr;simp[ha,hc]);clear ha;go_quiet (fail);go_wp2_with fail;go_meet
       case rel=>exact⟨by rw[HV.out],zal (Below.refl _ _) _⟩
    case rest=>
     obtain⟨rfl,hbc⟩:=hcut;have HBC:=hI hbc;have HB2:Hid (jb W2 wc):=HB.out.trans (hbc.mono hwr);have hwc:W2.heap.size≤wc.heap.size:=HB2.out.size;have HO2:Hid (AskOwn wc W2.heap.size (js b ((MA.take k).filter (zdr l.gone)).length d) ((MA.take k).filter (zdr l.gone))):=zau HO.out hbc;have e2':=(hbc.cell (block_lt_of_cell e2)).trans e2;have x0':=(hbc.cell (block_lt_of_cell x0)).trans x0;have x1':=(hbc.cell (block_lt_of_cell x1)).trans x1;have x2':=(hbc.cell (block_lt_of_cell x2)).trans x2;have le':=block_lt_of_cell e2';have lx':=block_lt_of_cell x0';clear e2 f2 x0 x1 x2 le lf lx hbc HO HB HAr hwr;cases D with
     | true=>
      have hst:=hI (zxd (pr:=zdr l.gone) hlt HD.out.symm);generalize(MA.take k).filter (zdr l.gone)=FK at *;have O1:Hid (wc.ownsRow W2.heap.size 281 3 (js b FK.length d) FK.length (FK.flatMap zec)):=HO2;clear HO2;go_wp2_with (at_builtin;refine zey rfl _ _ 182 281 281 _ 3 24 rfl Tryz.underlying182 zhq rfl (by decide) (by decide) W2.heap.size (js b FK.length d) FK.length _ rfl O1.out hfl hwc [.int .i64 MA[k].pt,.int .i64 MA[k].lie,.int .i64 MA[k].pl] rfl rfl (zxc _) ?_;intro b8 c8 w8 hown8 hgr8);have hB8:jb W2 w8:=(HB2.out.alloc hwc _).trans (zcw (O1.out.alloc _) (Nat.le_refl _) (by simp;omega) hgr8)
      have ho8:AskOwn w8 W2.heap.size (jq b8 0 (FK.length+1) c8) (FK++[MA[k]]):=by
       show World.ownsRow _ _ _ _ _ _ _;rw[List.length_append,List.flatMap_append];exact hown8
      go_roundg (MA.length-(k+1))
      case measure=>go_light;omega
      case rel=>go_light;exact⟨k+1,some ⟨b8,0,none⟩,c8,by omega,by omega,by rw[hst.out];simp,by go_num,hB8,by rw[hst.out];simpa using ho8⟩
     | false=>
      have hst:=hI (zxe (pr:=zdr l.gone) hlt HD.out.symm);generalize(MA.take k).filter (zdr l.gone)=FK at *;go_wp2_with fail;go_roundg (MA.length-(k+1))
      case measure=>go_light;omega
      case rel=>go_light;exact⟨k+1,b,d,by omega,by omega,by rw[hst.out],by go_num,HB2.out,by rw[hst.out];exact HO2.out⟩
   ·obtain rfl:k=MA.length:=(by omega);have hd:decide ((MA.length:Int)<(MA.length:Int))=false:=(by simp);rw[List.take_length]at HO hfl ⊢;go_wp2_with fail;go_ret;exact⟨b,d,by rw[HE.out];rfl,by rw[HE.out];exact zav HO.out HZ2.out,K2.out.trans (HB.out.mono HZ2.out)⟩
theorem zxg (p:Pl) (st:St):StA p st↔st.tks.length=p.S.length∧st.sws.length=p.P.length∧st.lks.length=p.R.length∧(∀j (h:j<st.tks.length) (h':j<p.S.length),zdl st.tks[j] p.S[j])∧(∀j (h:j<st.sws.length) (h':j<p.P.length),zdh st.sws[j] p.P[j])∧ ∀j (h:j<st.lks.length) (h':j<p.R.length),zdw st.lks[j] p.R[j]:=by
 constructor
 ·rintro⟨⟨h1,h2⟩,⟨h3,h4⟩,⟨h5,h6⟩⟩;exact⟨h1,h3,h5,fun j h h'=>h2 j h h' h,fun j h h'=>h4 j h h' h,fun j h h'=>h6 j h h' h⟩
 ·rintro⟨h1,h3,h5,h2,h4,h6⟩;exact⟨⟨h1,fun j h h' _=>h2 j h h'⟩,⟨h3,fun j h h' _=>h4 j h h'⟩,⟨h5,fun j h h' _=>h6 j h h'⟩⟩
theorem zxh (p:Pl) (st:St) (s q gg rr t sw lk:Value) (w:World) (hp:PlM w s q gg rr p) (hf:p.Fit) (hs:StM w t sw lk st) (hsf:st.fit):
  Calls Tryz.prog 220 #[plV p s q gg rr,stV t sw lk] w (zae w (decide (StA p st))):=by
 have HREF:Hid (StA p st↔st.tks.length=p.S.length∧st.sws.length=p.P.length∧st.lks.length=p.R.length∧(∀j (h:j<st.tks.length) (h':j<p.S.length),zdl st.tks[j] p.S[j])∧(∀j (h:j<st.sws.length) (h':j<p.P.length),zdh st.sws[j] p.P[j])∧ ∀j (h:j<st.lks.length) (h':j<p.R.length),zdw st.lks[j] p.R[j]):=zxg p st;have HNO:Hid (¬StA p st→decide (StA p st)=false):=fun h=>decide_eq_false h;have HYES:Hid (StA p st→decide (StA p st)=true):=fun h=>decide_eq_true h;generalize decide (StA p st)=B at *;obtain⟨a1,k1,rfl,g1⟩:=hp.S;obtain⟨a2,k2,rfl,g2⟩:=hp.P;obtain⟨a3,k3,rfl,-⟩:=hp.G;obtain⟨a4,k4,rfl,g4⟩:=hp.R;obtain⟨b1,d1,rfl,g5⟩:=hs.tks;obtain⟨b2,d2,rfl,g6⟩:=hs.sws;obtain⟨b3,d3,rfl,g7⟩:=hs.lks;have HSE:Hid (∀W,jb w W→SlA W 3 zas a1 k1 p.S):=fun W hb=>g1.below zbo hb;have HPT:Hid (∀W,jb w W→SlA W 2 RPt a2 k2 p.P):=fun W hb=>g2.below zct hb;have HRT:Hid (∀W,jb w W→SlA W 7 RRt a4 k4 p.R):=fun W hb=>g4.below zcv hb;have HTK:Hid (∀W,jb w W→SlA W 2 RTk b1 d1 st.tks):=fun W hb=>g5.below ze2 hb;have HSW:Hid (∀W,jb w W→SlA W 3 RSw b2 d2 st.sws):=fun W hb=>g6.below zc6 hb;have HLK:Hid (∀W,jb w W→SlA W 4 RLk b3 d3 st.lks):=fun W hb=>g7.below zc7 hb;have LT:=hI hsf.1;have LW:=hI hsf.2.1;have LL:=hI hsf.2.2;have HRF:Hid (∀j (h:j<p.R.length),p.R[j].A.length≤17592186044416):=fun j h=>(hf.rt j h).1;clear hp hf hs hsf g1 g2 g4 g5 g6 g7;unfold plV stV;go_enter Tryz.func220,Tryz.ntmps220;go_upto_region 1 with fail;generalize hW0:World.alloc _ _=W0;have K0:Hid (jb w W0):=by show Below _ _ _;rw[←hW0];exact jal.alloc (by simp) _
 have BX0:Hid (jk W0 w.heap.size #[p.ver,p.par,js a1 p.S.length k1,js a2 p.P.length k2,js a3 p.G.length k3,js a4 p.R.length k4] 28∧jk W0 (w.heap.size+1) #[js b1 st.tks.length d1,js b2 st.sws.length d2,js b3 st.lks.length d3] 33):=by
  show _∧_;rw[←hW0];exact⟨(heap_alloc_old _ _ (by simp)).trans (heap_alloc_new _ _),heap_alloc2_new _ _ _⟩
 have BXW:Hid (∀W,jb W0 W→jk W w.heap.size #[p.ver,p.par,js a1 p.S.length k1,js a2 p.P.length k2,js a3 p.G.length k3,js a4 p.R.length k4] 28∧jk W (w.heap.size+1) #[js b1 st.tks.length d1,js b2 st.sws.length d2,js b3 st.lks.length d3] 33):=fun W hb=>⟨(jm hb BX0.out.1),(jm hb BX0.out.2)⟩;have KW:Hid (∀W,jb W0 W→jb w W):=fun W hb=>jo K0 hb;clear hW0;have pp2:jc W0 w.heap.size 2 (js a1 p.S.length k1):=jr (BX0.out).1;have pp3:jc W0 w.heap.size 3 (js a2 p.P.length k2):=jr (BX0.out).1;have pp5:jc W0 w.heap.size 5 (js a4 p.R.length k4):=jr (BX0.out).1;obtain⟨ss0,ss1,ss2⟩:=zap (BX0.out).2;have lb:=block_lt_of_cell pp2;have lc:=block_lt_of_cell ss0;by_cases e1:st.tks.length=p.S.length
 ·have n1:((st.tks.length:Int) != (p.S.length:Int))=false:=by simp[e1]
  have E1:=hI e1;clear e1;by_cases e2:st.sws.length=p.P.length
  ·have n2:((st.sws.length:Int) != (p.P.length:Int))=false:=(by simp[e2]);have E2:=hI e2;clear e2;by_cases e3:st.lks.length=p.R.length
   ·have n3:((st.lks.length:Int) != (p.R.length:Int))=false:=(by simp[e3]);have E3:=hI e3;clear e3;have hlt1:=LT.out;have hlt2:=LW.out;have hlt3:=LL.out;go_wp2_with fail;clear pp2 pp3 pp5 ss0 ss1 ss2 lb lc n1 n2 n3;go_loopg [5] st.tks.length (fun g i wr=> ∃k:Nat,k≤st.tks.length∧g=st.tks.length-k∧i= .int .i64 k∧jb W0 wr∧ ∀j (h:j<st.tks.length) (h':j<p.S.length),j<k→zdl st.tks[j] p.S[j])
    case atStart=>exact⟨0,by omega,by omega,rfl,Below.refl _ _,fun j h h' hj=>by omega⟩
    case round=>
     obtain⟨k,hk,rfl,rfl,hb,hno⟩:=hrel;obtain⟨wo,rfl⟩: ∃wo:World,wo=wr:=⟨_,rfl⟩;have HNI:=hI hno;have KO:=hI hb;have KWO:=hI (KW.out _ hb);have bx:=BXW.out _ hb;clear hb hno;have pp2:jc wo w.heap.size 2 (js a1 p.S.length k1):=jr (bx).1;have ss0:jc wo (w.heap.size+1) 0 (js b1 st.tks.length d1):=jr (bx).2;clear bx;by_cases hlt:k<st.tks.length
     ·have hd1:decide ((k:Int)<(st.tks.length:Int))=true:=(by simp;omega);have hlm:k<p.S.length:=(by have:=E1.out;omega);have c0:(0:Int)≤(k:Int):=(by omega);have c1:(k:Int)<(st.tks.length:Int):=(by omega);have c2:(k:Int)<(p.S.length:Int):=(by omega);obtain⟨q1,q2,rfl,x0,x1⟩:=(HTK.out _ KWO.out).tk hlt;obtain⟨q3,q4,_,_,rfl,y0,-⟩:=(HSE.out _ KWO.out).sec hlm;have l8:=World.block_lt_of_cell? _ _ x0;have l9:=World.block_lt_of_cell? _ _ y0;have Kwo:=hI KO.out;have hR: ∀(d:Nat) (os:Array Obj),jb W0 (grow (redrawn wo d) os):=fun d os=>Kwo.out.trans ((below_regrown wo d os).mono Kwo.out.size);have HRW:=hI hR;have X0:=cell_regrown x0;have X1:=cell_regrown x1;have Y0:=cell_regrown y0;have P2:=cell_regrown pp2;have S0:=cell_regrown ss0;have HLW:Hid (¬zdl st.tks[k] p.S[k]→ ¬StA p st):=fun h hh=>h ((HREF.out.1 hh).2.2.2.1 k hlt hlm);clear x0 x1 y0 hR pp2;by_cases h0:st.tks[k].id=p.S[k].id
      ·have t0:(st.tks[k].id != p.S[k].id)=false:=(by simp[h0]);by_cases h1:2<st.tks[k].is
       ·have t1:decide ((2:Int)<st.tks[k].is)=true:=(by simp[h1]);have HE:=hI (HNO.out (HLW.out (fun hh=>by have:=hh.2;omega)));clear h1;go_upto_region 6 with fail;refine wp_region_quiet_below (by kernel_rfl) (by kernel_rfl) ?_
        repeat (go_big_quiet_step (fail))
        refine wpQuiet_nil ?_;rintro _ ⟨⟨dq,osq⟩,rfl⟩;go_wp2_with fail;go_ret;exact⟨zab HE.out.symm,KW.out _ (HRW.out dq osq)⟩
       ·have t1:decide ((2:Int)<st.tks[k].is)=false:=(by simp;omega);have HG:Hid (zdl st.tks[k] p.S[k]):=⟨h0,by omega⟩;clear h0 h1;go_upto_region 6 with fail;refine wp_region_quiet_below (by kernel_rfl) (by kernel_rfl) ?_
        repeat (go_big_quiet_step (fail))
        refine wpQuiet_nil ?_;rintro _ ⟨⟨dq,osq⟩,rfl⟩;go_wp2_with fail;go_roundg (st.tks.length-(k+1))
        case measure=>go_light;omega
        case rel=>
         go_light;refine⟨k+1,by omega,by omega,by go_num,HRW.out dq osq,fun j h h' hj=> ?_⟩;by_cases hjk:j=k
         ·subst hjk;exact HG.out
         ·exact HNI.out j h h' (by omega)
      ·have t0:(st.tks[k].id != p.S[k].id)=true:=(by simp[h0]);have HE:=hI (HNO.out (HLW.out (fun hh=>h0 hh.1)));clear h0;go_upto_region 6 with fail;refine wp_region_quiet_below (by kernel_rfl) (by kernel_rfl) ?_
       repeat (go_big_quiet_step (fail))
       refine wpQuiet_nil ?_;rintro _ ⟨⟨dq,osq⟩,rfl⟩;go_wp2_with fail;go_ret;exact⟨zab HE.out.symm,KW.out _ (HRW.out dq osq)⟩
     ·obtain rfl:k=st.tks.length:=(by omega);have hd1:decide ((st.tks.length:Int)<(st.tks.length:Int))=false:=(by simp);have R1:Hid (∀j (h:j<st.tks.length) (h':j<p.S.length),zdl st.tks[j] p.S[j]):=fun j h h'=>HNI.out j h h' h;have KZ:=hI KO.out;clear KO KWO HNI;go_wp2_with fail;clear pp2 ss0;go_loopg [6] st.sws.length (fun g i wr=> ∃k:Nat,k≤st.sws.length∧g=st.sws.length-k∧i= .int .i64 k∧jb W0 wr∧ ∀j (h:j<st.sws.length) (h':j<p.P.length),j<k→zdh st.sws[j] p.P[j])
      case atStart=>exact⟨0,by omega,by omega,rfl,KZ.out,fun j h h' hj=>by omega⟩
      case round=>
       obtain⟨k,hk,rfl,rfl,hb,hno⟩:=hrel;obtain⟨wo,rfl⟩: ∃wo:World,wo=wr:=⟨_,rfl⟩;have HNI:=hI hno;have KO:=hI hb;have KWO:=hI (KW.out _ hb);have bx:=BXW.out _ hb;clear hb hno;have pp3:jc wo w.heap.size 3 (js a2 p.P.length k2):=jr (bx).1;have ss1:jc wo (w.heap.size+1) 1 (js b2 st.sws.length d2):=jr (bx).2;clear bx;by_cases hlt:k<st.sws.length
       ·have hd1:decide ((k:Int)<(st.sws.length:Int))=true:=(by simp;omega);have hlm:k<p.P.length:=(by have:=E2.out;omega);have c0:(0:Int)≤(k:Int):=(by omega);have c1:(k:Int)<(st.sws.length:Int):=(by omega);have c2:(k:Int)<(p.P.length:Int):=(by omega);obtain⟨q1,q2,rfl,x0,x1,x2⟩:=(HSW.out _ KWO.out).sw hlt;have l8:=World.block_lt_of_cell? _ _ x0;go_upto_region 12 with fail;generalize hWA:World.alloc _ _=wA;have hbA:jb wo wA:=(by rw[←hWA];exact jal);have z0:jc wA wo.heap.size 0 st.sws[k].id:=(by rw[←hWA];simp);have z1:jc wA wo.heap.size 1 st.sws[k].lie:=(by rw[←hWA];simp);have z2:jc wA wo.heap.size 2 st.sws[k].call:=(by rw[←hWA];simp);have KwA:=jh KO hbA;have g3:=zac hbA pp3;obtain⟨q3,q4,rfl,y0,y1⟩:=(HPT.out _ (KW.out _ KwA.out)).pt hlm;have l9:=World.block_lt_of_cell? _ _ y0;clear hWA hbA x0 x1 x2 pp3 ss1 l8;have hR: ∀(d:Nat) (os:Array Obj),jb W0 (grow (redrawn wA d) os):=fun d os=>KwA.out.trans ((below_regrown wA d os).mono KwA.out.size);have HRW:=hI hR;have Z0:=cell_regrown z0;have Z1:=cell_regrown z1;have Z2:=cell_regrown z2;have Y0:=cell_regrown y0;have G3:=cell_regrown g3;have HLW:Hid (¬zdh st.sws[k] p.P[k]→ ¬StA p st):=fun h hh=>h ((HREF.out.1 hh).2.2.2.2.1 k hlt hlm);clear z0 z1 z2 y0 y1 g3 hR;by_cases h0:st.sws[k].id=p.P[k].id
        ·have t0:(st.sws[k].id != p.P[k].id)=false:=(by simp[h0]);by_cases h4:st.sws[k].lie<0
         ·have t4:decide (st.sws[k].lie<0)=true:=(by simp[h4]);have HE:=hI (HNO.out (HLW.out (fun hh=>by have:=hh.2.1.1;omega)));clear h4;go_upto_region 12 with fail;refine wp_region_quiet_below (by kernel_rfl) (by kernel_rfl) ?_
          repeat (go_big_quiet_step (fail))
          refine wpQuiet_nil ?_;rintro _ ⟨⟨dq,osq⟩,rfl⟩;go_wp2_with fail;go_ret;exact⟨zab HE.out.symm,KW.out _ (HRW.out dq osq)⟩
         ·have t4:decide (st.sws[k].lie<0)=false:=(by simp;omega);by_cases h3:2<st.sws[k].lie
          ·have t3:decide ((2:Int)<st.sws[k].lie)=true:=(by simp[h3]);have HE:=hI (HNO.out (HLW.out (fun hh=>by have:=hh.2.1.2;omega)));clear h3;go_upto_region 12 with fail;refine wp_region_quiet_below (by kernel_rfl) (by kernel_rfl) ?_
           repeat (go_big_quiet_step (fail))
           refine wpQuiet_nil ?_;rintro _ ⟨⟨dq,osq⟩,rfl⟩;go_wp2_with fail;go_ret;exact⟨zab HE.out.symm,KW.out _ (HRW.out dq osq)⟩
          ·have t3:decide ((2:Int)<st.sws[k].lie)=false:=(by simp;omega);by_cases h2:st.sws[k].call<0
           ·have t2:decide (st.sws[k].call<0)=true:=(by simp[h2]);have HE:=hI (HNO.out (HLW.out (fun hh=>by have:=hh.2.2.1;omega)));clear h2;go_upto_region 12 with fail;refine wp_region_quiet_below (by kernel_rfl) (by kernel_rfl) ?_
            repeat (go_big_quiet_step (fail))
            refine wpQuiet_nil ?_;rintro _ ⟨⟨dq,osq⟩,rfl⟩;go_wp2_with fail;go_ret;exact⟨zab HE.out.symm,KW.out _ (HRW.out dq osq)⟩
           ·have t2:decide (st.sws[k].call<0)=false:=(by simp;omega);by_cases h1:2<st.sws[k].call
            ·have t1:decide ((2:Int)<st.sws[k].call)=true:=(by simp[h1]);have HE:=hI (HNO.out (HLW.out (fun hh=>by have:=hh.2.2.2;omega)));clear h1;go_upto_region 12 with fail;refine wp_region_quiet_below (by kernel_rfl) (by kernel_rfl) ?_
             repeat (go_big_quiet_step (fail))
             refine wpQuiet_nil ?_;rintro _ ⟨⟨dq,osq⟩,rfl⟩;go_wp2_with fail;go_ret;exact⟨zab HE.out.symm,KW.out _ (HRW.out dq osq)⟩
            ·have t1:decide ((2:Int)<st.sws[k].call)=false:=(by simp;omega);have HG:Hid (zdh st.sws[k] p.P[k]):=⟨h0,⟨by omega,by omega⟩,⟨by omega,by omega⟩⟩;clear h0 h1 h2 h3 h4;go_upto_region 12 with fail;refine wp_region_quiet_below (by kernel_rfl) (by kernel_rfl) ?_
             repeat (go_big_quiet_step (fail))
             refine wpQuiet_nil ?_;rintro _ ⟨⟨dq,osq⟩,rfl⟩;go_wp2_with fail;go_roundg (st.sws.length-(k+1))
             case measure=>go_light;omega
             case rel=>
              go_light;refine⟨k+1,by omega,by omega,by go_num,HRW.out dq osq,fun j h h' hj=> ?_⟩;by_cases hjk:j=k
              ·subst hjk;exact HG.out
              ·exact HNI.out j h h' (by omega)
        ·have t0:(st.sws[k].id != p.P[k].id)=true:=(by simp[h0]);have HE:=hI (HNO.out (HLW.out (fun hh=>h0 hh.1)));clear h0;go_upto_region 12 with fail;refine wp_region_quiet_below (by kernel_rfl) (by kernel_rfl) ?_
         repeat (go_big_quiet_step (fail))
         refine wpQuiet_nil ?_;rintro _ ⟨⟨dq,osq⟩,rfl⟩;go_wp2_with fail;go_ret;exact⟨zab HE.out.symm,KW.out _ (HRW.out dq osq)⟩
       ·obtain rfl:k=st.sws.length:=(by omega);have hd1:decide ((st.sws.length:Int)<(st.sws.length:Int))=false:=(by simp);have R2:Hid (∀j (h:j<st.sws.length) (h':j<p.P.length),zdh st.sws[j] p.P[j]):=fun j h h'=>HNI.out j h h' h;clear KZ;have KZ:=hI KO.out;clear KO KWO HNI;go_wp2_with fail;clear pp3 ss1;go_loopg [8] st.lks.length (fun g i wr=> ∃k:Nat,k≤st.lks.length∧g=st.lks.length-k∧i= .int .i64 k∧jb W0 wr∧ ∀j (h:j<st.lks.length) (h':j<p.R.length),j<k→zdw st.lks[j] p.R[j])
        case atStart=>exact⟨0,by omega,by omega,rfl,KZ.out,fun j h h' hj=>by omega⟩
        case round=>
         obtain⟨k,hk,rfl,rfl,hb,hno⟩:=hrel;obtain⟨wo,rfl⟩: ∃wo:World,wo=wr:=⟨_,rfl⟩;have HNI:=hI hno;have KO:=hI hb;have KWO:=hI (KW.out _ hb);have bx:=BXW.out _ hb;clear hb hno;have pp5:jc wo w.heap.size 5 (js a4 p.R.length k4):=jr (bx).1;have ss2:jc wo (w.heap.size+1) 2 (js b3 st.lks.length d3):=jr (bx).2;clear bx;by_cases hlt:k<st.lks.length
         ·have hd1:decide ((k:Int)<(st.lks.length:Int))=true:=(by simp;omega);have hlm:k<p.R.length:=(by have:=E3.out;omega);have c0:(0:Int)≤(k:Int):=(by omega);have c1:(k:Int)<(st.lks.length:Int):=(by omega);have c2:(k:Int)<(p.R.length:Int):=(by omega);obtain⟨q1,q2,rfl,x0,x1,x2,x3⟩:=(HLK.out _ KWO.out).lk hlt;obtain⟨q3,q4,vp,vo,vf,rfl,y0,y1,y2,y3,y4,y5,y6,hrm⟩:=(HRT.out _ KWO.out).rt hlm;obtain⟨v1,v2,v3,rfl,ip⟩:=hrm.A;obtain rfl:=ip.len;have l8:=World.block_lt_of_cell? _ _ x0;have l9:=World.block_lt_of_cell? _ _ y0;have Kwo:=hI KO.out;have hR: ∀(d:Nat) (os:Array Obj),jb W0 (grow (redrawn wo d) os):=fun d os=>Kwo.out.trans ((below_regrown wo d os).mono Kwo.out.size);have HRW:=hI hR;have X0:=cell_regrown x0;have X1:=cell_regrown x1;have X2:=cell_regrown x2;have X3:=cell_regrown x3;have Y0:=cell_regrown y0;have Y3:=cell_regrown y3;have Y6:=cell_regrown y6;have P5:=cell_regrown pp5;have S2:=cell_regrown ss2;have hcc:=fun(d:Nat) (os:Array Obj)=>Calls.regrown_of (zv1 st.lks[k] p.R[k] (grow (redrawn wo d) os) (HRF.out k hlm));have HLW:Hid (¬zdw st.lks[k] p.R[k]→ ¬StA p st):=fun h hh=>h ((HREF.out.1 hh).2.2.2.2.2 k hlt hlm);clear x0 x1 x2 x3 y0 y1 y2 y3 y4 y5 y6 hrm ip hR pp5;by_cases h1:st.lks[k].id=p.R[k].id
          ·have t1:(st.lks[k].id != p.R[k].id)=false:=(by simp[h1]);by_cases h2:zch st.lks[k] p.R[k]
           ·rw[decide_eq_true h2]at hcc;have cC:=hI hcc;have HG:Hid (zdw st.lks[k] p.R[k]):=⟨h1,h2⟩;clear h1 h2 hcc;go_upto_region 17 with fail;refine wp_region_quiet_below (by kernel_rfl) (by kernel_rfl) ?_
            repeat (go_big_quiet_step ((with_reducible exact cC.out _ _)))
            refine wpQuiet_nil ?_;rintro _ ⟨⟨dq,osq⟩,rfl⟩;go_wp2_with fail;go_roundg (st.lks.length-(k+1))
            case measure=>go_light;omega
            case rel=>
             go_light;refine⟨k+1,by omega,by omega,by go_num,HRW.out dq osq,fun j h h' hj=> ?_⟩;by_cases hjk:j=k
             ·subst hjk;exact HG.out
             ·exact HNI.out j h h' (by omega)
           ·rw[decide_eq_false h2]at hcc;have cC:=hI hcc;have HE:=hI (HNO.out (HLW.out (fun hh=>h2 hh.2)));clear h1 h2 hcc;go_upto_region 17 with fail;refine wp_region_quiet_below (by kernel_rfl) (by kernel_rfl) ?_
            repeat (go_big_quiet_step ((with_reducible exact cC.out _ _)))
            refine wpQuiet_nil ?_;rintro _ ⟨⟨dq,osq⟩,rfl⟩;go_wp2_with fail;go_ret;exact⟨zab HE.out.symm,KW.out _ (HRW.out dq osq)⟩
          ·have t1:(st.lks[k].id != p.R[k].id)=true:=(by simp[h1]);have HE:=hI (HNO.out (HLW.out (fun hh=>h1 hh.1)));clear h1 hcc;go_upto_region 17 with fail;refine wp_region_quiet_below (by kernel_rfl) (by kernel_rfl) ?_
           repeat (go_big_quiet_step (fail))
           refine wpQuiet_nil ?_;rintro _ ⟨⟨dq,osq⟩,rfl⟩;go_wp2_with fail;go_ret;exact⟨zab HE.out.symm,KW.out _ (HRW.out dq osq)⟩
         ·obtain rfl:k=st.lks.length:=(by omega);have hd1:decide ((st.lks.length:Int)<(st.lks.length:Int))=false:=(by simp);have HE:=hI (HYES.out (HREF.out.2 ⟨E1.out,E2.out,E3.out,R1.out,R2.out,fun j h h'=>HNI.out j h h' h⟩));go_wp2_with fail;go_ret;exact⟨zab HE.out.symm,KWO.out⟩
   ·have n3:((st.lks.length:Int) != (p.R.length:Int))=true:=(by simp;omega);have HE:=hI (HNO.out (fun h=>e3 (HREF.out.1 h).2.2.1));clear e3;go_wp2_with fail;go_ret;exact⟨zab HE.out.symm,K0.out⟩
  ·have n2:((st.sws.length:Int) != (p.P.length:Int))=true:=(by simp;omega);have HE:=hI (HNO.out (fun h=>e2 (HREF.out.1 h).2.1));clear e2;go_wp2_with fail;go_ret;exact⟨zab HE.out.symm,K0.out⟩
 ·have n1:((st.tks.length:Int) != (p.S.length:Int))=true:=by simp;omega
  have HE:=hI (HNO.out (fun h=>e1 (HREF.out.1 h).1));clear e1;go_wp2_with fail;go_ret;exact⟨zab HE.out.symm,K0.out⟩
def zh5 (H:Nat→Bool) (s:Nat):Nat→Bool:=fun q=>if q=s then true else H q
def zpr (A:Nat→Int) (s:Nat) (x:Int):Nat→Int:=fun q=>if q=s then x else A q
def zbw:List Int→(Nat→Bool)→Option (Nat→Bool)
 | [],H=>some H
 | s::r,H=>if H s.toNat=true then none else zbw r (zh5 H s.toNat)
def zbx (call:Int→Int):List Ask→(Nat→Int)→Option (Nat→Int)
 | [],A=>some A
 | a::r,A=>if(A a.pt.toNat≠0∧A a.pt.toNat≠a.lie)∨call a.pt≠a.lie then none else zbx call r (zpr A a.pt.toNat a.lie)
theorem zxi (id:Int): ∀(l:List Int) (g:Gr),g.ok=false→(zc4 id l g).ok=false
 | [],g,h=>h
 | s::r,g,h=>by
  have h1:(zc9 id g s).ok=false:=by unfold zc9;simp[h]
  rw[zc4,if_neg (by rw[h1];decide)];exact h1
theorem zps (call:Int→Int): ∀(l:List Ask) (g:Gr),g.ok=false→(zc5 call l g).ok=false
 | [],g,h=>h
 | s::r,g,h=>by
  have h1:(zda call g s).ok=false:=by unfold zda;simp[h]
  rw[zc5,if_neg (by rw[h1];decide)];exact h1
theorem zpt {id:Int}(hid:id≠0): ∀(l:List Int) (g:Gr) (H:Nat→Bool),g.ok=true→(∀q,g.H q≠0↔H q=true)→
  match zbw l H with
  | none=>(zc4 id l g).ok=false
  | some H'=>(zc4 id l g).ok=true∧(∀q,(zc4 id l g).H q≠0↔H' q=true)∧(zc4 id l g).A=g.A
 | [],g,H,h0,h1=>⟨h0,h1,rfl⟩
 | s::r,g,H,h0,h1=>by
  rw[zbw,zc4];by_cases hs:H s.toNat=true
  ·rw[if_pos hs]
   have h2:(zc9 id g s).ok=false:=by
    unfold zc9;have:=(h1 s.toNat).2 hs;simp[this]
   simp only;rw[if_neg (by rw[h2];decide)];exact h2
  ·rw[if_neg hs]
   have h3:g.H s.toNat=0:=by
    by_cases hz:g.H s.toNat=0
    ·exact hz
    ·exact absurd ((h1 _).1 hz) hs
   have h2:(zc9 id g s).ok=true:=(by unfold zc9;simp[h0,h3]);rw[if_pos h2]
   exact zpt hid r (zc9 id g s) (zh5 H s.toNat) h2 (fun q=>by
    unfold zc9 zh5;by_cases hq:q=s.toNat
    ·simp[hq,hid]
    ·simp only[if_neg hq];exact h1 q)
theorem zpu {call:Int→Int}: ∀(l:List Ask) (g:Gr),(∀a∈l,1≤a.pt)→g.ok=true→(∀q:Nat,g.A q≠0→g.A q=call q)→
  match zbx call l g.A with
  | none=>(zc5 call l g).ok=false
  | some A'=>(zc5 call l g).ok=true∧(zc5 call l g).A=A'∧(zc5 call l g).H=g.H∧ ∀q:Nat,A' q≠0→A' q=call q
 | [],g,_,h0,h1=>⟨h0,rfl,rfl,h1⟩
 | a::r,g,hl,h0,h1=>by
  have hp:=hl a List.mem_cons_self;have hpt:((a.pt.toNat:Nat):Int)=a.pt:=by omega
  rw[zbx,zc5];by_cases hc:call a.pt=a.lie
  ·have hn: ¬((g.A a.pt.toNat≠0∧g.A a.pt.toNat≠a.lie)∨call a.pt≠a.lie):=by
    rintro(⟨q1,q2⟩ | q)
    ·have:=h1 _ q1;rw[hpt]at this;exact q2 (this.trans hc)
    ·exact q hc
   rw[if_neg hn];have h2:(zda call g a).ok=true:=(by unfold zda;simp[h0,hc]);rw[if_pos h2]
   have ih:=zpu r (zda call g a) (fun b hb=>hl b (List.mem_cons_of_mem _ hb)) h2 (fun q hq=>by
    unfold zda at hq ⊢;simp only at hq ⊢;by_cases he:q=a.pt.toNat
    ·rw[if_pos he,he,hpt];exact hc.symm
    ·rw[if_neg he]at hq ⊢;exact h1 q hq)
   exact ih
  ·rw[if_pos (.inr hc)];have h2:(zda call g a).ok=false:=(by unfold zda;simp[hc]);simp only;rw[if_neg (by rw[h2];decide)];exact h2
def zfh (p:Pl) (st:St) (i:Nat) (x:(Nat→Bool) × (Nat→Int)):Option ((Nat→Bool) × (Nat→Int)):=
 (zbw (zc0 (zao p (p.R.getD i zRt)) (st.lks.getD i zLk)) x.1).bind fun H=>(zbx (zbz st.sws) (zc8 (zao p (p.R.getD i zRt)) (st.lks.getD i zLk)) x.2).map fun A=>(H,A)
def zbt (p:Pl) (st:St):Nat→Option ((Nat→Bool) × (Nat→Int))
 | 0=>some (fun _=>false,fun _=>0)
 | i+1=>(zbt p st i).bind (zfh p st i)
theorem zpv {p:Pl}(hS:zaj p){i:Nat}(hi:i<p.R.length) (l:Lk): ∀a∈zc8 (zao p p.R[i]) l,1≤a.pt∧a.pt≤99:=fun a ha=>by
 unfold zc8 at ha;split at ha
 ·simp at ha
 ·exact(zkx hS hi).asks a (List.mem_filter.1 ha).1
theorem zxj {p:Pl}{st:St}(hS:zaj p) (hA:StA p st){i:Nat}(hi:i<st.lks.length):st.lks[i].id≠0:=by
 have hl:=hA.2.2.1;have h1:=(hA.2.2.2 i hi (by omega) hi).1;have h2:=(zn2 hS.1 i (by omega) (by omega)).1;omega
theorem zxk (call:Int→Int) (w:Wy) (l:Lk) (g:Gr) (h:g.ok=false):(zf3 call w l g).ok=false:=zps _ _ _ (zxi _ _ _ h)
theorem zll {p:Pl}{st:St}(hS:zaj p) (hA:StA p st): ∀i,i≤st.lks.length→
  match zbt p st i with
  | none=>(zbr p st i).ok=false
  | some x=>(zbr p st i).ok=true∧(∀q,(zbr p st i).H q≠0↔x.1 q=true)∧(zbr p st i).A=x.2∧ ∀q:Nat,x.2 q≠0→x.2 q=zbz st.sws q
 | 0,_=>⟨rfl,fun q=>by simp[zbr],rfl,fun q h=>absurd rfl h⟩
 | i+1,hi=>by
  have ih:=zll hS hA i (by omega);have hl:=hA.2.2.1;have hir:i<p.R.length:=by omega
  have er:p.R.getD i zRt=p.R[i]:=by rw[List.getD_eq_getElem?_getD,List.getElem?_eq_getElem hir];rfl
  have el:st.lks.getD i zLk=st.lks[i]:=by rw[List.getD_eq_getElem?_getD,List.getElem?_eq_getElem (by omega)];rfl
  rw[zbt];show match (zbt p st i).bind (zfh p st i)with | none=>(zf3 (zbz st.sws) (zao p (p.R.getD i zRt)) (st.lks.getD i zLk) (zbr p st i)).ok=false | some x=>(zf3 (zbz st.sws) (zao p (p.R.getD i zRt)) (st.lks.getD i zLk) (zbr p st i)).ok=true∧(∀q,(zf3 (zbz st.sws) (zao p (p.R.getD i zRt)) (st.lks.getD i zLk) (zbr p st i)).H q≠0↔x.1 q=true)∧(zf3 (zbz st.sws) (zao p (p.R.getD i zRt)) (st.lks.getD i zLk) (zbr p st i)).A=x.2∧ ∀q:Nat,x.2 q≠0→x.2 q=zbz st.sws q
  cases hp:zbt p st i with
  | none=>
   rw[hp]at ih;exact zxk _ _ _ _ ih
  | some x=>
   rw[hp]at ih;obtain⟨h1,h2,h3,h4⟩:=ih;show match zfh p st i x with | none=>_ | some x=>_
   unfold zfh zf3;rw[er,el];have hh:=zpt (zxj hS hA (i:=i) (by omega)) (zc0 (zao p p.R[i]) st.lks[i]) (zbr p st i) x.1 h1 h2;cases hr:zbw (zc0 (zao p p.R[i]) st.lks[i]) x.1 with
   | none=>
    rw[hr]at hh;exact zps _ _ _ hh
   | some H'=>
    rw[hr]at hh;obtain⟨k1,k2,k3⟩:=hh;have ha:=zpu (call:=zbz st.sws) (zc8 (zao p p.R[i]) st.lks[i]) (zc4 st.lks[i].id (zc0 (zao p p.R[i]) st.lks[i]) (zbr p st i)) (fun a h=>(zpv hS hir _ a h).1) k1 (by rw[k3,h3];exact h4);rw[k3,h3]at ha;cases hq:zbx (zbz st.sws) (zc8 (zao p p.R[i]) st.lks[i]) x.2 with
    | none=>rw[hq]at ha;exact ha
    | some A'=>
     rw[hq]at ha;obtain⟨m1,m2,m3,m4⟩:=ha;exact⟨m1,fun q=>by rw[m3];exact k2 q,m2,m4⟩
def zh6 (p:Pl) (st:St):Prop:=StA p st∧(zbt p st st.lks.length).isSome=true
instance (p:Pl) (st:St):Decidable (zh6 p st):=by unfold zh6;exact inferInstance
theorem zpw {p:Pl}{st:St}(hS:zaj p):zdi p st↔zh6 p st:=by
 unfold zdi zh6;constructor
 ·rintro⟨h1,h2⟩;refine⟨h1,?_⟩;have:=zll hS h1 st.lks.length (Nat.le_refl _);cases hr:zbt p st st.lks.length with
  | none=>rw[hr]at this;unfold zf4 at h2;rw[this]at h2;cases h2
  | some x=>rfl
 ·rintro⟨h1,h2⟩;refine⟨h1,?_⟩;have:=zll hS h1 st.lks.length (Nat.le_refl _);cases hr:zbt p st st.lks.length with
  | none=>rw[hr]at h2;cases h2
  | some x=>rw[hr]at this;exact this.1
theorem zxl {p:Pl}(hS:zaj p){i:Nat}(hi:i<p.R.length) (l:Lk): ∀s∈zc0 (zao p p.R[i]) l,0≤s∧s≤99:=fun s hs=>by
 unfold zc0 at hs;split at hs
 ·simp at hs
 ·refine(zkx hS hi).S s ?_;rcases List.mem_append.1 hs with h | h
  ·exact List.mem_append_left _ (List.mem_of_mem_drop h)
  ·exact List.mem_append_right _ h
def pick (f:Int→Bool):List Int:=((List.range 99).map fun(i:Nat)=>(i:Int)+1).filter f
theorem zjj {p:Pl}(h:zaj p){k:Nat}(hk:k<p.R.length): ∃x,zbp p p.R[k]=some x:=by
 have h2:=((zgq p).1 h).2 k hk;unfold zdd at h2;cases hr:zbp p p.R[k]with
 | none=>rw[hr]at h2;exact h2.elim
 | some x=>exact⟨x,rfl⟩
theorem zxm {p:Pl}(hPM:zaq p){k:Nat}(hk:k<p.R.length) (l:Lk):(zc0 (zao p p.R[k]) l).length≤1000:=by
 have h:=(zfe hPM hk).1;have h6:=h.2.2.2.2.1;have h2:=h.2.2.2.2.2.1;rw[zpm];unfold zf9;split
 ·simp
 ·rw[List.length_append,List.length_drop];omega
theorem zlm {p:Pl}(hPM:zaq p){k:Nat}(hk:k<p.R.length){x:Rw}(hx:zbp p p.R[k]=some x) (l:Lk):zc8 (zao p p.R[k]) l=ze7 (zci p p.R[k] x) l:=by
 rw[zxb,zk9 hPM hk hx]
theorem zxn {MA:List Ask}(h:MA.length≤1000) (l:Lk):(ze7 MA l).length≤1000:=by
 unfold ze7;split
 ·simp
 ·exact Nat.le_trans (List.length_filter_le _ _) h
end Go.Proofs.YtbiehpjhhopjaaaGreat
