/-
 The references' word on a plan's points,walked. (Written by wip/tools/gen_rwb.py.)
-/
import Derived.Test.YtbiehpjhhopjaaaGreatTEqS
import Derived.Lib.QuietBelow
set_option linter.unusedVariables false
set_option linter.unusedSimpArgs false
set_option maxRecDepth 100000
set_option maxHeartbeats 16000000
namespace Go.Proofs.YtbiehpjhhopjaaaGreat
open Go.RowKit Go.Sort
def PtR (p:Pl) (j:Nat) (h:j<p.P.length):Prop:=(1≤p.P[j].id∧p.P[j].id≤99)∧(∀h':0<j,p.P[j-1].id<p.P[j].id)∧ ∃m,∃hm:m<p.S.length,fix (fun x=>decide (x.id=p.P[j].sec)) p.S=(m:Int)∧p.S[m].pt=p.P[j].id
theorem zpd {p:Pl}(hA:za4 p.S p.S.length):zcf p↔(∀j (h:j<p.P.length),PtR p j h)∧(p.P.length:Int)≤6∧zbj p.S p.S.length=p.P.length:=by
 constructor
 ·rintro⟨⟨h1,h2⟩,h3,h4⟩;refine⟨fun j h=>⟨(h1 j h h).1,(h1 j h h).2,?_⟩,h2,h3⟩;obtain⟨s,hs,e1,e2⟩:=h4 j h;obtain⟨i,hi,rfl⟩:=List.getElem_of_mem hs;rcases zce (fun x:Sec=>decide (x.id=p.P[j].sec)) p.S with⟨_,hno⟩ | ⟨m,hm,e,h5,_⟩
  ·have:=hno i hi;simp[e1]at this
  ·refine⟨m,hm,e,?_⟩;have:p.S[m]=p.S[i]:=zvt hA (List.getElem_mem _) (List.getElem_mem _) (by rw[e1];simpa using h5);rw[this];exact e2
 ·rintro⟨h1,h2,h3⟩;refine⟨⟨fun j h _=>⟨(h1 j h).1,(h1 j h).2.1⟩,h2⟩,h3,fun j h=> ?_⟩;obtain⟨m,hm,e,h5⟩:=(h1 j h).2.2;refine⟨p.S[m],List.getElem_mem _,?_,h5⟩;rcases zce (fun x:Sec=>decide (x.id=p.P[j].sec)) p.S with⟨e',_⟩ | ⟨m',hm',e',h6,_⟩
  ·rw[e']at e;omega
  ·have:m'=m:=(by rw[e']at e;omega);subst this
   simpa using h6
theorem zwx (p:Pl) (s q gg rr:Value) (w:World) (hp:PlM w s q gg rr p) (hf:p.Fit) (hA:za4 p.S p.S.length):Calls Tryz.prog 213 #[plV p s q gg rr] w (zae w (decide (zcf p))):=by
 have HBAD:Hid (∀k (h:k<p.P.length),¬PtR p k h→decide (zcf p)=false):=fun k h hn=>by
  rw[decide_eq_false_iff_not,zpd hA];exact fun hh=>hn (hh.1 k h)
 have HGOOD:Hid (∀b:Bool,(∀j (h:j<p.P.length),PtR p j h)→(b=true↔(p.P.length:Int)≤6∧zbj p.S p.S.length=p.P.length)→decide (zcf p)=b):=fun b h1 h2=>by
  rw[Bool.eq_iff_iff,h2,decide_eq_true_iff,zpd hA];exact⟨fun h=>h.2,fun h=>⟨h1,h⟩⟩
 obtain⟨a1,k1,rfl,h1⟩:=hp.S;obtain⟨a2,k2,rfl,h2⟩:=hp.P;have HS:Hid (∀W,jb w W→SlA W 3 zas a1 k1 p.S):=fun W hb=>h1.below zbo hb;have HQ:Hid (∀W,jb w W→SlA W 2 RPt a2 k2 p.P):=fun W hb=>h2.below zct hb;have hs:=hf.S;have hq:=hf.P;clear hp hf h1 h2 hA;unfold plV;generalize decide (zcf p)=B at *;go_enter Tryz.func213,Tryz.ntmps213;go_upto_region 1 with fail;generalize hW0:World.alloc _ _=W0;have K0:Hid (jb w W0):=by show Below _ _ _;rw[←hW0];exact jal
 have f2:jc W0 w.heap.size 2 (js a1 p.S.length k1):=by rw[←hW0];simp
 have f3:jc W0 w.heap.size 3 (js a2 p.P.length k2):=by rw[←hW0];simp
 have lb:=block_lt_of_cell f2;have F2:Hid (∀W,jb W0 W→jc W w.heap.size 2 (js a1 p.S.length k1)):=fun W hb=>zac hb f2;have F3:Hid (∀W,jb W0 W→jc W w.heap.size 3 (js a2 p.P.length k2)):=fun W hb=>zac hb f3;clear hW0;go_wp2_with fail;go_loopg [3,4] p.S.length (fun g m i wr=> ∃k:Nat,k≤p.S.length∧g=p.S.length-k∧m= .int .i64 (zbj p.S k)∧i= .int .i64 k∧wr=W0)
 case atStart=>exact⟨0,by omega,by omega,by rw[zl2];rfl,rfl,rfl⟩
 case round=>
  obtain⟨k,hk,rfl,rfl,rfl,hw⟩:=hrel;obtain rfl:=hw.symm;clear hw;by_cases hlt:k<p.S.length
  ·obtain⟨b,off,a',c',rfl,x0,x1,x2,hends⟩:=(HS _ K0).sec hlt;have c0:(0:Int)≤(k:Int):=(by omega);have c1:(k:Int)<(p.S.length:Int):=(by omega);have hcs:=zl3 hlt;have hcl:=zih p.S k;clear hends;by_cases hz:p.S[k].pt=0
   ·have t0:(p.S[k].pt != 0)=false:=(by simp[hz]);have HC:Hid (zbj p.S (k+1)=zbj p.S k):=(by rw[hcs,if_neg (by simpa using hz)];rfl);clear hcs hz;generalize zbj p.S k=c at *;go_wp2_with fail;go_roundg (p.S.length-(k+1))
    case measure=>go_light;omega
    case rel=>go_light;exact⟨k+1,by omega,by omega,by rw[HC.out],by go_num,rfl⟩
   ·have t0:(p.S[k].pt != 0)=true:=(by simp[hz]);have HC:Hid (zbj p.S (k+1)=zbj p.S k+1):=(by rw[hcs,if_pos hz];rfl);clear hcs hz;generalize zbj p.S k=c at *;go_wp2_with fail;go_roundg (p.S.length-(k+1))
    case measure=>go_light;omega
    case rel=>go_light;exact⟨k+1,by omega,by omega,by rw[HC.out];go_num,by go_num,rfl⟩
  ·obtain rfl:k=p.S.length:=(by omega);have hcl:=zih p.S p.S.length;generalize hC:zbj p.S p.S.length=C at *;go_wp2_with fail;go_loopg [5] p.P.length (fun g i wr=> ∃k:Nat,k≤p.P.length∧g=p.P.length-k∧i= .int .i64 k∧jb W0 wr∧ ∀j (h:j<p.P.length),j<k→PtR p j h)
   case atStart=>exact⟨0,by omega,by omega,rfl,Below.refl _ _,fun j h hj=>by omega⟩
   case round=>
    obtain⟨k,hk,rfl,rfl,hb,hno⟩:=hrel;obtain⟨wo,rfl⟩: ∃wo:World,wo=wr:=⟨_,rfl⟩;have HNO:=hI hno;have KO:=hI hb;have KWO:=jh K0 hb;clear hb hno f2 f3;have f2:=F2 _ KO;have f3:=F3 _ KO;have lb:=block_lt_of_cell f2;by_cases hlt:k<p.P.length
    ·have hdk2:decide ((k:Int)<(p.P.length:Int))=true:=(by simp;omega);obtain⟨b,off,rfl,x0,x1⟩:=(HQ _ KWO).pt hlt;have c0:(0:Int)≤(k:Int):=(by omega);have c1:(k:Int)<(p.P.length:Int):=(by omega);have l2:=World.block_lt_of_cell? _ _ x0;go_upto_region 11 with fail;generalize hWA:World.alloc _ _=wA;have hbA:jb wo wA:=(by rw[←hWA];exact jal);have y0:jc wA wo.heap.size 0 p.P[k].id:=(by rw[←hWA];simp);have y1:jc wA wo.heap.size 1 p.P[k].sec:=(by rw[←hWA];simp);have KA:=jh KO hbA;have KWA:=jh KWO hbA;have g2:=zac hbA f2;have g3:=zac hbA f3;clear hWA hbA x0 x1 f2 f3 l2 lb;go_wp2_with fail;refine(zf5 a1 k1 p.S p.P[k].sec wA (HS _ KWA) hs).mono ?_;rintro e w' ⟨rfl,rfl⟩;have hR: ∀(d:Nat) (os:Array Obj),jb W0 (grow (redrawn wA d) os):=fun d os=>KA.trans ((below_regrown wA d os).mono KA.size);have HRW:=hI hR;have KWF:Hid (∀W,jb W0 W→jb w W):=fun W hb=>jo K0 hb;have Y0:=cell_regrown y0;have G2:=cell_regrown g2;have G3:=cell_regrown g3;have hfc:=hI (zce (fun x:Sec=>decide (x.id=p.P[k].sec)) p.S);generalize hF:fix (fun x:Sec=>decide (x.id=p.P[k].sec)) p.S=F at *;have HFF:=hI hF;clear hR y1 hF;by_cases h1:p.P[k].id<1
     ·have HE:=hI (HBAD k hlt (fun hh=>by have:=hh.1.1;omega));clear HFF hfc;go_upto_region 12 with fail;refine wp_region_quiet_below (by kernel_rfl) (by kernel_rfl) ?_
      repeat (go_big_quiet_step (fail))
      refine wpQuiet_nil ?_;rintro _ ⟨⟨dq,osq⟩,rfl⟩;go_wp2_with fail;go_ret;exact⟨zab HE.symm,KWF _ (HRW dq osq)⟩
     ·have u1:decide (p.P[k].id<1)=false:=(by simp;omega);by_cases h2:99<p.P[k].id
      ·have HE:=hI (HBAD k hlt (fun hh=>by have:=hh.1.2;omega));clear HFF hfc;go_upto_region 12 with fail;refine wp_region_quiet_below (by kernel_rfl) (by kernel_rfl) ?_
       repeat (go_big_quiet_step (fail))
       refine wpQuiet_nil ?_;rintro _ ⟨⟨dq,osq⟩,rfl⟩;go_wp2_with fail;go_ret;exact⟨zab HE.symm,KWF _ (HRW dq osq)⟩
      ·have u2:decide (99<p.P[k].id)=false:=(by simp;omega);by_cases h3:0<k
       ·have u3:decide ((0:Int)<(k:Int))=true:=(by simp;omega);obtain⟨b',off',hbe,z0,z1⟩:=(HQ _ KWA).pt (i:=k-1) (by omega);cases hbe;have ek:((k-1:Nat):Int)=(k:Int)-1:=(by omega);have Z0:=cell_regrown z0;have e0:(0:Int)≤(k:Int)-1:=(by omega);have e1:(k:Int)-1<(p.P.length:Int):=(by omega);have et:((k:Int)-1).toNat=k-1:=(by omega);clear z0 z1;by_cases h4:p.P[k].id≤p.P[k-1].id
        ·have HE:=hI (HBAD k hlt (fun hh=>by have:=hh.2.1 h3;omega));clear HFF hfc;go_upto_region 12 with fail;refine wp_region_quiet_below (by kernel_rfl) (by kernel_rfl) ?_
         repeat (go_big_quiet_step (fail))
         refine wpQuiet_nil ?_;rintro _ ⟨⟨dq,osq⟩,rfl⟩;go_wp2_with fail;go_ret;exact⟨zab HE.symm,KWF _ (HRW dq osq)⟩
        ·have u6:decide (p.P[k].id≤p.P[k-1].id)=false:=(by simp;omega);rcases hfc.out with⟨hF1,hF2⟩ | ⟨m,hm,hF1,hF2,hF3⟩
         ·subst hF1;have HE:=hI (HBAD k hlt (fun hh=>by obtain⟨m,hm,e,_⟩:=hh.2.2;rw[HFF.out]at e;omega));clear HFF hfc hF2;go_upto_region 12 with fail;refine wp_region_quiet_below (by kernel_rfl) (by kernel_rfl) ?_
          repeat (go_big_quiet_step (fail))
          refine wpQuiet_nil ?_;rintro _ ⟨⟨dq,osq⟩,rfl⟩;go_wp2_with fail;go_ret;exact⟨zab HE.symm,KWF _ (HRW dq osq)⟩
         ·subst hF1;have u4:decide ((m:Int)<0)=false:=(by simp);obtain⟨b2,off2,a3,c3,rfl,v0,v1,v2,-⟩:=(HS _ KWA).sec hm;have V1:=cell_regrown v1;have d0:(0:Int)≤(m:Int):=(by omega);have d1:(m:Int)<(p.S.length:Int):=(by omega);clear v0 v1 v2;by_cases h5:p.S[m].pt=p.P[k].id
          ·have HG:Hid (PtR p k hlt):=⟨⟨by omega,by omega⟩,fun _=>by omega,m,hm,HFF,h5⟩;have u5:(p.S[m].pt != p.P[k].id)=false:=(by simp[h5]);clear HFF hfc hF2 hF3 h5;go_upto_region 12 with fail;refine wp_region_quiet_below (by kernel_rfl) (by kernel_rfl) ?_
           repeat (go_big_quiet_step (fail))
           refine wpQuiet_nil ?_;rintro _ ⟨⟨dq,osq⟩,rfl⟩;go_wp2_with fail;go_roundg (p.P.length-(k+1))
           case measure=>go_light;omega
           case rel=>
            go_light;refine⟨k+1,by omega,by omega,by go_num,HRW dq osq,fun j h hj=> ?_⟩;by_cases hjk:j=k
            ·subst hjk;exact HG
            ·exact HNO j h (by omega)
          ·have u5:(p.S[m].pt != p.P[k].id)=true:=by simp[h5]
           have HE:=hI (HBAD k hlt (fun hh=>by
            obtain⟨m',hm',e,h6⟩:=hh.2.2;rw[HFF.out]at e;have:m=m':=(by omega);subst this
            exact h5 h6))
           clear HFF hfc hF2 hF3 h5;go_upto_region 12 with fail;refine wp_region_quiet_below (by kernel_rfl) (by kernel_rfl) ?_
           repeat (go_big_quiet_step (fail))
           refine wpQuiet_nil ?_;rintro _ ⟨⟨dq,osq⟩,rfl⟩;go_wp2_with fail;go_ret;exact⟨zab HE.symm,KWF _ (HRW dq osq)⟩
       ·have u3:decide ((0:Int)<(k:Int))=false:=(by simp;omega);rcases hfc.out with⟨hF1,hF2⟩ | ⟨m,hm,hF1,hF2,hF3⟩
        ·subst hF1;have HE:=hI (HBAD k hlt (fun hh=>by obtain⟨m,hm,e,_⟩:=hh.2.2;rw[HFF.out]at e;omega));clear HFF hfc hF2;go_upto_region 12 with fail;refine wp_region_quiet_below (by kernel_rfl) (by kernel_rfl) ?_
         repeat (go_big_quiet_step (fail))
         refine wpQuiet_nil ?_;rintro _ ⟨⟨dq,osq⟩,rfl⟩;go_wp2_with fail;go_ret;exact⟨zab HE.symm,KWF _ (HRW dq osq)⟩
        ·subst hF1;have u4:decide ((m:Int)<0)=false:=(by simp);obtain⟨b2,off2,a3,c3,rfl,v0,v1,v2,-⟩:=(HS _ KWA).sec hm;have V1:=cell_regrown v1;have d0:(0:Int)≤(m:Int):=(by omega);have d1:(m:Int)<(p.S.length:Int):=(by omega);clear v0 v1 v2;by_cases h5:p.S[m].pt=p.P[k].id
         ·have HG:Hid (PtR p k hlt):=⟨⟨by omega,by omega⟩,fun h=>absurd h h3,m,hm,HFF,h5⟩;have u5:(p.S[m].pt != p.P[k].id)=false:=(by simp[h5]);clear HFF hfc hF2 hF3 h5;go_upto_region 12 with fail;refine wp_region_quiet_below (by kernel_rfl) (by kernel_rfl) ?_
          repeat (go_big_quiet_step (fail))
          refine wpQuiet_nil ?_;rintro _ ⟨⟨dq,osq⟩,rfl⟩;go_wp2_with fail;go_roundg (p.P.length-(k+1))
          case measure=>go_light;omega
          case rel=>
           go_light;refine⟨k+1,by omega,by omega,by go_num,HRW dq osq,fun j h hj=> ?_⟩;by_cases hjk:j=k
           ·subst hjk;exact HG
           ·exact HNO j h (by omega)
         ·have u5:(p.S[m].pt != p.P[k].id)=true:=by simp[h5]
          have HE:=hI (HBAD k hlt (fun hh=>by
           obtain⟨m',hm',e,h6⟩:=hh.2.2;rw[HFF.out]at e;have:m=m':=(by omega);subst this
           exact h5 h6))
          clear HFF hfc hF2 hF3 h5;go_upto_region 12 with fail;refine wp_region_quiet_below (by kernel_rfl) (by kernel_rfl) ?_
          repeat (go_big_quiet_step (fail))
          refine wpQuiet_nil ?_;rintro _ ⟨⟨dq,osq⟩,rfl⟩;go_wp2_with fail;go_ret;exact⟨zab HE.symm,KWF _ (HRW dq osq)⟩
    ·obtain rfl:k=p.P.length:=(by omega);have HALL:=hI (fun j (h:j<p.P.length)=>HNO j h h);by_cases h6:(p.P.length:Int)≤6
     ·have v6:decide ((p.P.length:Int)≤6)=true:=(by simp[h6]);by_cases hc:C=p.P.length
      ·have e0:((C:Int)==(p.P.length:Int))=true:=(by rw[beq_iff_eq];omega);have HE:=hI (HGOOD true HALL (by simp[hc,h6]));clear hc hC h6;go_wp2_with fail;go_ret;exact⟨zab HE.symm,KWO⟩
      ·have e0:((C:Int)==(p.P.length:Int))=false:=(by rw[beq_eq_false_iff_ne];omega);have HE:=hI (HGOOD false HALL (by simp[hc]));clear hc hC h6;go_wp2_with fail;go_ret;exact⟨zab HE.symm,KWO⟩
     ·have v6:decide ((p.P.length:Int)≤6)=false:=(by simp;omega);have HE:=hI (HGOOD false HALL (by simp[h6]));clear hC h6;go_wp2_with fail;go_ret;exact⟨zab HE.symm,KWO⟩
def SgM (p:Pl) (m:Nat) (hm:m<p.G.length) (j:Nat) (h:j<p.G.length):Prop:=p.G[m].id<p.G[j].id∧ ¬(p.G[m].sec=p.G[j].sec∧p.G[m].en=p.G[j].en)
def SgR (p:Pl) (j:Nat) (h:j<p.G.length):Prop:=(1≤p.G[j].id∧p.G[j].id≤99)∧(∃m,∃hm:m<p.S.length,fix (fun x=>decide (x.id=p.G[j].sec)) p.S=(m:Int)∧0≤p.G[j].en∧p.G[j].en<p.S[m].ends.length)∧ ∀m (hm:m<j),SgM p m (by omega) j h
theorem zpe {l:List Sec}{n:Int}{m:Nat}(hm:m<l.length) (h:fix (fun x=>decide (x.id=n)) l=(m:Int)):l[m].id=n:=by
 rcases zce (fun x:Sec=>decide (x.id=n)) l with⟨e,_⟩ | ⟨k,hk,e,h1,_⟩
 ·rw[e]at h;omega
 ·have:k=m:=by rw[e]at h;omega
  subst this
  simpa using h1
theorem zwy {l:List Sec}{n:Int}(h:za2 Sec.id l n=true): ∃m,∃hm:m<l.length,fix (fun x=>decide (x.id=n)) l=(m:Int)∧l[m].id=n:=by
 rcases zce (fun x:Sec=>decide (x.id=n)) l with⟨_,h2⟩ | ⟨k,hk,e,h1,_⟩
 ·unfold za2 at h;rw[List.any_eq_true]at h;obtain⟨x,hx,e⟩:=h;obtain⟨i,hi,rfl⟩:=List.getElem_of_mem hx;rw[h2 i hi]at e;cases e
 ·exact⟨k,hk,e,by simpa using h1⟩
theorem zpf {p:Pl}(hA:za4 p.S p.S.length):zcm (zax p.S p.S.length) p.G↔(∀j (h:j<p.G.length),SgR p j h)∧(p.G.length:Int)≤10:=by
 constructor
 ·rintro⟨⟨h1,h2⟩,h3⟩;refine⟨fun j h=>⟨(h1 j h h).1,?_,fun m hm=>⟨zg4 h1 h hm,(h3 j h h).2 m hm⟩⟩,h2⟩;have h4:=(h3 j h h).1;obtain⟨m,hm,e,h5⟩:=zwy (zi7 h4.1);refine⟨m,hm,e,h4.2.1,?_⟩;have h6:=h4.2.2;have h7:=h4.1;rw[zhy hA hm p.G[j].sec.toNat (by have:=h7.1;omega)]at h6;exact h6
 ·rintro⟨h1,h2⟩;refine⟨⟨fun j h _=>⟨(h1 j h).1,fun h'=>((h1 j h).2.2 (j-1) (by omega)).1⟩,h2⟩,fun j h _=>⟨?_,fun m hm=>((h1 j h).2.2 m hm).2⟩⟩;obtain⟨m,hm,e,h3,h4⟩:=(h1 j h).2.1;have h5:=zpe hm e
  have h6:za2 Sec.id p.S p.G[j].sec=true:=by
   unfold za2;rw[List.any_eq_true];exact⟨p.S[m],List.getElem_mem _,by simp[h5]⟩
  have h7:=zn3 hA h6;refine⟨h7,h3,?_⟩;rw[zhy hA hm p.G[j].sec.toNat (by have:=h7.1;omega)];exact h4
theorem zwz (p:Pl) (s q gg rr:Value) (w:World) (hp:PlM w s q gg rr p) (hf:p.Fit) (hA:za4 p.S p.S.length):Calls Tryz.prog 214 #[plV p s q gg rr] w (zae w (decide (zcm (zax p.S p.S.length) p.G))):=by
 have HBAD:Hid (∀k (h:k<p.G.length),¬SgR p k h→decide (zcm (zax p.S p.S.length) p.G)=false):=fun k h hn=>by
  rw[decide_eq_false_iff_not,zpf hA];exact fun hh=>hn (hh.1 k h)
 have HGOOD:Hid (∀b:Bool,(∀j (h:j<p.G.length),SgR p j h)→(b=true↔(p.G.length:Int)≤10)→decide (zcm (zax p.S p.S.length) p.G)=b):=fun b h1 h2=>by
  rw[Bool.eq_iff_iff,h2,decide_eq_true_iff,zpf hA];exact⟨fun h=>h.2,fun h=>⟨h1,h⟩⟩
 obtain⟨a1,k1,rfl,h1⟩:=hp.S;obtain⟨a3,k3,rfl,h3⟩:=hp.G;have HS:Hid (∀W,jb w W→SlA W 3 zas a1 k1 p.S):=fun W hb=>h1.below zbo hb;have HQ:Hid (∀W,jb w W→SlA W 3 RSg a3 k3 p.G):=fun W hb=>h3.below zcu hb;have hs:=hf.S;have hq:=hf.G;clear hp hf h1 h3 hA;unfold plV;generalize decide (zcm (zax p.S p.S.length) p.G)=B at *;go_enter Tryz.func214,Tryz.ntmps214;go_upto_region 1 with fail;generalize hW0:World.alloc _ _=W0;have K0:Hid (jb w W0):=by show Below _ _ _;rw[←hW0];exact jal
 have f2:jc W0 w.heap.size 2 (js a1 p.S.length k1):=by rw[←hW0];simp
 have f3:jc W0 w.heap.size 4 (js a3 p.G.length k3):=by rw[←hW0];simp
 have F2:Hid (∀W,jb W0 W→jc W w.heap.size 2 (js a1 p.S.length k1)):=fun W hb=>zac hb f2;have F3:Hid (∀W,jb W0 W→jc W w.heap.size 4 (js a3 p.G.length k3)):=fun W hb=>zac hb f3;clear hW0;go_wp2_with fail;go_loopg [3] p.G.length (fun g i wr=> ∃k:Nat,k≤p.G.length∧g=p.G.length-k∧i= .int .i64 k∧jb W0 wr∧ ∀j (h:j<p.G.length),j<k→SgR p j h)
 case atStart=>exact⟨0,by omega,by omega,rfl,Below.refl _ _,fun j h hj=>by omega⟩
 case round=>
  obtain⟨k,hk,rfl,rfl,hb,hno⟩:=hrel;obtain⟨wo,rfl⟩: ∃wo:World,wo=wr:=⟨_,rfl⟩;have HNO:=hI hno;have KO:=hI hb;have KWO:=jh K0 hb;clear hb hno f2 f3;have f2:=F2 _ KO;have f3:=F3 _ KO;have lb:=block_lt_of_cell f2;by_cases hlt:k<p.G.length
  ·have hdk2:decide ((k:Int)<(p.G.length:Int))=true:=(by simp;omega);obtain⟨b,off,rfl,x0,x1,x2⟩:=(HQ _ KWO).sg hlt;have c0:(0:Int)≤(k:Int):=(by omega);have c1:(k:Int)<(p.G.length:Int):=(by omega);have l2:=World.block_lt_of_cell? _ _ x0;go_upto_region 5 with fail;generalize hWA:World.alloc _ _=wA;have hbA:jb wo wA:=(by rw[←hWA];exact jal);have y0:jc wA wo.heap.size 0 p.G[k].id:=(by rw[←hWA];simp);have y1:jc wA wo.heap.size 1 p.G[k].sec:=(by rw[←hWA];simp);have y2:jc wA wo.heap.size 2 p.G[k].en:=(by rw[←hWA];simp);have YY:Hid (∀W,jb wA W→jc W wo.heap.size 0 p.G[k].id∧jc W wo.heap.size 1 p.G[k].sec∧jc W wo.heap.size 2 p.G[k].en):=fun W hb=>⟨zac hb y0,zac hb y1,zac hb y2⟩;have KA:=jh KO hbA;have KWA:=jh KWO hbA;have g2:=zac hbA f2;clear hWA hbA x0 x1 x2 f2 f3 l2 lb;have lb:=block_lt_of_cell g2;have ly:=block_lt_of_cell y0;go_wp2_with fail;refine(zf5 a1 k1 p.S p.G[k].sec wA (HS _ KWA) hs).mono ?_;rintro e w' ⟨rfl,rfl⟩;have hR: ∀(d:Nat) (os:Array Obj),jb wA (grow (redrawn wA d) os):=fun d os=>below_regrown wA d os;have HRA:=hI hR;have HRW:Hid (∀(d:Nat) (os:Array Obj),jb W0 (grow (redrawn wA d) os)):=fun d os=>KA.trans ((hR d os).mono KA.size);have KWF:Hid (∀W,jb W0 W→jb w W):=fun W hb=>jo K0 hb;have Y0:=cell_regrown y0;have Y2:=cell_regrown y2;have G2:=cell_regrown g2;have hfc:=hI (zce (fun x:Sec=>decide (x.id=p.G[k].sec)) p.S);generalize hF:fix (fun x:Sec=>decide (x.id=p.G[k].sec)) p.S=F at *;have HFF:=hI hF;clear hR y1 hF y0 y2;by_cases h1:p.G[k].id<1
   ·have HE:=hI (HBAD k hlt (fun hh=>by have:=hh.1.1;omega));clear HFF hfc;go_upto_region 6 with fail;refine wp_region_quiet_below (by kernel_rfl) (by kernel_rfl) ?_
    repeat (go_big_quiet_step (fail))
    refine wpQuiet_nil ?_;rintro _ ⟨⟨dq,osq⟩,rfl⟩;go_wp2_with fail;go_ret;exact⟨zab HE.symm,KWF _ (HRW dq osq)⟩
   ·have u1:decide (p.G[k].id<1)=false:=(by simp;omega);by_cases h2:99<p.G[k].id
    ·have HE:=hI (HBAD k hlt (fun hh=>by have:=hh.1.2;omega));clear HFF hfc;go_upto_region 6 with fail;refine wp_region_quiet_below (by kernel_rfl) (by kernel_rfl) ?_
     repeat (go_big_quiet_step (fail))
     refine wpQuiet_nil ?_;rintro _ ⟨⟨dq,osq⟩,rfl⟩;go_wp2_with fail;go_ret;exact⟨zab HE.symm,KWF _ (HRW dq osq)⟩
    ·have u2:decide (99<p.G[k].id)=false:=(by simp;omega);rcases hfc.out with⟨hF1,hF2⟩ | ⟨m,hm,hF1,hF2,hF3⟩
     ·subst hF1;have HE:=hI (HBAD k hlt (fun hh=>by obtain⟨m,hm,e,_⟩:=hh.2.1;rw[HFF.out]at e;omega));clear HFF hfc hF2;go_upto_region 6 with fail;refine wp_region_quiet_below (by kernel_rfl) (by kernel_rfl) ?_
      repeat (go_big_quiet_step (fail))
      refine wpQuiet_nil ?_;rintro _ ⟨⟨dq,osq⟩,rfl⟩;go_wp2_with fail;go_ret;exact⟨zab HE.symm,KWF _ (HRW dq osq)⟩
     ·subst hF1;have u4:decide ((m:Int)<0)=false:=(by simp);obtain⟨b2,off2,a4,c4,rfl,v0,v1,v2,-⟩:=(HS _ KWA).sec hm;have V2:=cell_regrown v2;have d0:(0:Int)≤(m:Int):=(by omega);have d1:(m:Int)<(p.S.length:Int):=(by omega);clear v0 v1 v2;by_cases h4:p.G[k].en<0
      ·have HE:=hI (HBAD k hlt (fun hh=>by
        obtain⟨m',hm',e,h6,h7⟩:=hh.2.1;rw[HFF.out]at e;have:m=m':=(by omega);subst this
        omega))
       clear HFF hfc hF2 hF3;go_upto_region 6 with fail;refine wp_region_quiet_below (by kernel_rfl) (by kernel_rfl) ?_
       repeat (go_big_quiet_step (fail))
       refine wpQuiet_nil ?_;rintro _ ⟨⟨dq,osq⟩,rfl⟩;go_wp2_with fail;go_ret;exact⟨zab HE.symm,KWF _ (HRW dq osq)⟩
      ·have u5:decide (p.G[k].en<0)=false:=(by simp;omega);by_cases h5:(p.S[m].ends.length:Int)≤p.G[k].en
       ·have HE:=hI (HBAD k hlt (fun hh=>by
         obtain⟨m',hm',e,h6,h7⟩:=hh.2.1;rw[HFF.out]at e;have:m=m':=(by omega);subst this
         omega))
        clear HFF hfc hF2 hF3;go_upto_region 6 with fail;refine wp_region_quiet_below (by kernel_rfl) (by kernel_rfl) ?_
        repeat (go_big_quiet_step (fail))
        refine wpQuiet_nil ?_;rintro _ ⟨⟨dq,osq⟩,rfl⟩;go_wp2_with fail;go_ret;exact⟨zab HE.symm,KWF _ (HRW dq osq)⟩
       ·have u6:decide ((p.S[m].ends.length:Int)≤p.G[k].en)=false:=(by simp;omega);have GA:Hid ((1≤p.G[k].id∧p.G[k].id≤99)∧(∃m,∃hm:m<p.S.length,fix (fun x=>decide (x.id=p.G[k].sec)) p.S=(m:Int)∧0≤p.G[k].en∧p.G[k].en<p.S[m].ends.length)):=⟨⟨by omega,by omega⟩,m,hm,HFF,by omega,by omega⟩;clear HFF hfc hF2 hF3 h1 h2 h4 h5;go_upto_region 6 with fail;refine wp_region_quiet_below (by kernel_rfl) (by kernel_rfl) ?_
        repeat (go_big_quiet_step (fail))
        refine wpQuiet_nil ?_;rintro _ ⟨⟨dq,osq⟩,rfl⟩;have HBW:=hI (HRW dq osq);have HBA:=hI (HRA dq osq);generalize hWN:grow (redrawn wA dq) osq=wn at *;clear hWN HRA HRW Y0 Y2 G2 V2;clear g2 lb ly;go_wp2_with fail;go_loopg [6] k (fun g i wr=> ∃m:Nat,m≤k∧g=k-m∧i= .int .i64 m∧jb wA wr∧ ∀j (h:j<k),j<m→SgM p j (by omega) k hlt)
        case atStart=>exact⟨0,by omega,by omega,rfl,HBA,fun j h hj=>by omega⟩
        case round=>
         obtain⟨m2,hm2,rfl,rfl,hb,hno⟩:=hrel;obtain⟨wi,rfl⟩: ∃wi:World,wi=wr:=⟨_,rfl⟩;have HNI:=hI hno;have KI:=hI hb;have KI0:=jh KA hb;have KWI:Hid (jb w wi):=KWF _ KI0;clear hb hno;have f3:=F3 _ KI0;obtain⟨y0,y1,y2⟩:=YY _ KI;have ly:=block_lt_of_cell y0;by_cases hlt2:m2<k
         ·have hd3:decide ((m2:Int)<(k:Int))=true:=(by simp;omega);have hml:m2<p.G.length:=(by omega);obtain⟨b',off',hbe,z0,z1,z2⟩:=(HQ _ KWI).sg hml;cases hbe;have e0:(0:Int)≤(m2:Int):=(by omega);have e1:(m2:Int)<(p.G.length:Int):=(by omega);by_cases h6:p.G[k].id≤p.G[m2].id
          ·have u6:decide (p.G[k].id≤p.G[m2].id)=true:=(by simp[h6]);have HE:=hI (HBAD k hlt (fun hh=>by have:=(hh.2.2 m2 hlt2).1;omega));clear h6;go_wp2_with fail;go_ret;exact⟨zab HE.symm,KWI.alloc KWI.size _⟩
          ·have u6:decide (p.G[k].id≤p.G[m2].id)=false:=(by simp;omega);by_cases h7:p.G[m2].sec=p.G[k].sec
           ·have u7:(p.G[m2].sec==p.G[k].sec)=true:=(by rw[beq_iff_eq];exact h7);by_cases h8:p.G[m2].en=p.G[k].en
            ·have u8:(p.G[m2].en==p.G[k].en)=true:=(by rw[beq_iff_eq];exact h8);have HE:=hI (HBAD k hlt (fun hh=>(hh.2.2 m2 hlt2).2 ⟨h7,h8⟩));clear h6 h7 h8;go_wp2_with fail;go_ret;exact⟨zab HE.symm,KWI.alloc KWI.size _⟩
            ·have u8:(p.G[m2].en==p.G[k].en)=false:=(by rw[beq_eq_false_iff_ne];exact h8);have HG:Hid (SgM p m2 hml k hlt):=⟨by omega,fun h=>h8 h.2⟩;clear h6 h7 h8;go_wp2_with fail;go_roundg (k-(m2+1))
             case measure=>go_light;omega
             case rel=>
              go_light;refine⟨m2+1,by omega,by omega,by go_num,KI.alloc KI.size _,fun j h hj=> ?_⟩;by_cases hjk:j=m2
              ·subst hjk;exact HG
              ·exact HNI j h (by omega)
           ·have u7:(p.G[m2].sec==p.G[k].sec)=false:=(by rw[beq_eq_false_iff_ne];exact h7);have HG:Hid (SgM p m2 hml k hlt):=⟨by omega,fun h=>h7 h.1⟩;clear h6 h7;go_wp2_with fail;go_roundg (k-(m2+1))
            case measure=>go_light;omega
            case rel=>
             go_light;refine⟨m2+1,by omega,by omega,by go_num,KI.alloc KI.size _,fun j h hj=> ?_⟩;by_cases hjk:j=m2
             ·subst hjk;exact HG
             ·exact HNI j h (by omega)
         ·obtain rfl:m2=k:=(by omega);have hd3:decide ((m2:Int)<(m2:Int))=false:=(by simp);have HG:Hid (SgR p m2 hlt):=⟨GA.1,GA.2,fun j hj=>HNI j hj hj⟩;go_wp2_with fail;go_roundg (p.G.length-(m2+1))
          case measure=>go_light;omega
          case rel=>
           go_light;refine⟨m2+1,by omega,by omega,by go_num,KI0,fun j h hj=> ?_⟩;by_cases hjk:j=m2
           ·subst hjk;exact HG
           ·exact HNO j h (by omega)
  ·obtain rfl:k=p.G.length:=(by omega);have HALL:=hI (fun j (h:j<p.G.length)=>HNO j h h);by_cases h6:(p.G.length:Int)≤10
   ·have v6:decide ((p.G.length:Int)≤10)=true:=(by simp[h6]);have HE:=hI (HGOOD true HALL (by simp[h6]));clear h6;go_wp2_with fail;go_ret;exact⟨zab HE.symm,KWO⟩
   ·have v6:decide ((p.G.length:Int)≤10)=false:=(by simp;omega);have HE:=hI (HGOOD false HALL (by simp[h6]));clear h6;go_wp2_with fail;go_ret;exact⟨zab HE.symm,KWO⟩
end Go.Proofs.YtbiehpjhhopjaaaGreat
