/-
 state.held,walked.
-/
import Derived.Test.YtbiehpjhhopjaaaGreatTStateB
import Derived.Test.YtbiehpjhhopjaaaGreatTWayG
import Derived.Test.YtbiehpjhhopjaaaGreatTIxfn
import Derived.Test.YtbiehpjhhopjaaaGreatTPlanF
import Derived.Test.YtbiehpjhhopjaaaGreatTData
set_option linter.unusedVariables false
set_option linter.unusedSimpArgs false
set_option maxRecDepth 100000
set_option maxHeartbeats 16000000
namespace Go.Proofs.YtbiehpjhhopjaaaGreat
open Go.RowKit Go.Maps
theorem IL.drop {w:World}{b off n:Nat}{l:List Int}(h:IL w (some ⟨b,off,none⟩) l.length l) (m:Nat) (hm:m≤l.length):IL w (some ⟨b,off+m,none⟩) (l.drop m).length (l.drop m):=
 ⟨rfl,fun i hi=>by
  rw[List.length_drop]at hi;obtain⟨b',off',e,hc⟩:=h.cell (m+i) (by omega);cases e;refine⟨b,off+m,rfl,?_⟩;rw[List.getElem_drop];rw[Nat.add_assoc]
  exact hc⟩
structure R3 (N:Nat) (w0:World) (B:Nat) (PV SV OV:Value) (ng pl:Int) (LL:List Int) (f0 f1 f2 f3 f4 f5 f6 f7 f8 f9 f10 f11 f12 f13 f14 f15:Bool) (s11 s12 s13 s14 s15 s16 s17 s18 s19 s20 s21 s22 s23 s24 s25 s26:Value) (W:World):Prop where
 old:Old N w0 W
 h0:f0=true→s11= .pointer (some ⟨B,0,none⟩)
 h1:f1=true→s12=PV
 h2:f2=true→s13= .pointer (some ⟨B+1,2,none⟩)
 h3:f3=true→s14= .int .i64 ng
 h4:f4=true→s15= .int .i64 ng
 h5:f5=true→s16= .pointer (some ⟨B,0,none⟩)
 h6:f6=true→s17=PV
 h7:f7=true→s18= .int .i64 pl
 h8:f8=true→s19= .int .i64 ng
 h9:f9=true→s20=SV
 h10:f10=true→s21= .pointer (some ⟨B,1,none⟩)
 h11:f11=true→s22=OV
 h12:f12=true→ ∃b,s23= .slice (some ⟨b,0,none⟩) 2 2∧jc W b 0 SV∧jc W b 1 OV
 h13:f13=true→ ∃a c,s24= .slice a LL.length c∧IntOwn W N (js a LL.length c) LL
 h14:f14=true→s25= .int .i64 (LL.length:Int)
 h15:f15=true→s26= .int .i64 0
theorem R3.below {N:Nat}{w0:World}{B:Nat}{PV SV OV:Value}{ng pl:Int}{LL:List Int}{f0 f1 f2 f3 f4 f5 f6 f7 f8 f9 f10 f11 f12 f13 f14 f15:Bool}{s11 s12 s13 s14 s15 s16 s17 s18 s19 s20 s21 s22 s23 s24 s25 s26:Value}{W W':World}(h:R3 N w0 B PV SV OV ng pl LL f0 f1 f2 f3 f4 f5 f6 f7 f8 f9 f10 f11 f12 f13 f14 f15 s11 s12 s13 s14 s15 s16 s17 s18 s19 s20 s21 s22 s23 s24 s25 s26 W) (hb:jb W W'):R3 N w0 B PV SV OV ng pl LL f0 f1 f2 f3 f4 f5 f6 f7 f8 f9 f10 f11 f12 f13 f14 f15 s11 s12 s13 s14 s15 s16 s17 s18 s19 s20 s21 s22 s23 s24 s25 s26 W':=
 {h with
  old:=h.old.below hb
  h12:=fun k=>(h.h12 k).imp fun b hh=>⟨hh.1,zac hb hh.2.1,zac hb hh.2.2⟩
  h13:=fun k=>(h.h13 k).imp fun a hh=>hh.imp fun c hc=>⟨hc.1,zau hc.2 hb⟩}
theorem zuf (gR gG gL:Nat) (g:Gr) (v:Value) (ww:Wy) (l:Lk) (ap ao:Option Addr) (cp co:Nat) (va:Value) (W:World) (h:GrM W gR gG g v) (hl:jc W gL 0 l.id) (n1:gR≠gG) (n2:gL≠gR) (n3:gL≠gG)
  (hp:IL W ap ww.A.length ww.A) (ho:IL W ao ww.O.length ww.O) (hpl:ww.A.length≤6) (hp1:1≤ww.A.length) (hcp:ww.A.length≤cp) (hol:ww.O.length≤2) (hpf: ∀s∈ww.A++ww.O,0≤s∧s≤99) (hgo:0≤l.gone∧l.gone<ww.A.length):
  Calls Tryz.prog 291 #[.agg #[js ap ww.A.length cp,js ao ww.O.length co,va,ww.near],.agg #[l.id,.int .u8 l.ph,l.gone,l.left],.func (.func 292) #[] #[jp gR 0,jp gG 0,jp gL 0]] W (ziz W gR gG v (zc4 l.id (zc0 ww l) g)):=by
 have hcf: ∀(args:Array Value) (w:World),Sem.run Tryz.prog (callFunc 292 args) w= .ok (.enter 292 args) w:=zua;have lR:=zad h.ok;have lG:=h.row.lt;have lL:gL<W.heap.size:=World.block_lt_of_cell? _ _ hl;have HG:=hI h;have HLK:Hid (∀W',Tw gR gG W W'→jc W' gL 0 l.id):=fun W' ht=>(World.cell?_of_block (w:=W) (ht.block gL lL n2 n3)).trans hl;have HPF:=hI hpf;obtain⟨ng,hng⟩:=Int.eq_ofNat_of_zero_le hgo.1;have hng2:ng<ww.A.length:=by omega
 have HE:Hid (zc0 ww l=if l.ph=0 then []else ww.A.drop ng++ww.O):=by
  show _=_;unfold zc0;rw[hng];have:min (max (ng:Int) 0).toNat ww.A.length=ng:=by omega
  rw[this]
 obtain⟨bp,fp,rfl,-⟩:=hp.cell 0 (by omega);have HP:Hid (∀W',jb W W'→IL W' (some ⟨bp,fp+ng,none⟩) (ww.A.drop ng).length (ww.A.drop ng)):=fun W' hb=>(hp.below hb).drop (n:=0) ng (Nat.le_of_lt hng2);have HO:Hid (∀W',jb W W'→IL W' ao ww.O.length ww.O):=fun W' hb=>ho.below hb
 have HCO:Hid (∀b W0,jb W W0→jc W0 b 0 (jq bp (fp+ng) (ww.A.drop ng).length (cp-ng))→jc W0 b 1 (js ao ww.O.length co)→Calls Tryz.prog 302 #[jq b 0 2 2] W0 fun e w'=> ∃a c,e= .returned (js a (ww.A.drop ng++ww.O).length c)∧IntOwn w' W0.heap.size (js a (ww.A.drop ng++ww.O).length c) (ww.A.drop ng++ww.O)∧jb W0 w'):=
  fun b W0 hb x0 x1=>zm4 b _ _ _ _ _ _ W0 x0 x1 (HP _ hb) (HO _ hb) (by rw[List.length_drop];omega) (by omega)
 have HDL:Hid ((ww.A.drop ng).length=ww.A.length-ng):=List.length_drop
 have HPL:Hid (∀s∈ww.A.drop ng++ww.O,0≤s∧s≤99):=fun s hs=>HPF s (by
  rcases List.mem_append.1 hs with h | h
  ·exact List.mem_append_left _ (List.mem_of_mem_drop h)
  ·exact List.mem_append_right _ h)
 have HLL8:Hid ((ww.A.drop ng++ww.O).length≤8):=by show _≤_;rw[List.length_append,List.length_drop];omega
 generalize ww.A.drop ng++ww.O=LL at *;generalize ww.A.drop ng=DP at *;clear HP HO HPF;generalize zc0 ww l=L at *;rw[hng];clear h hl hpf hp ho hgo;by_cases hph:l.ph=0
 ·have t0:(l.ph==0)=true:=by rw[beq_iff_eq];exact hph
  rw[if_pos hph]at HE;have hE:=HE.out;subst hE;clear hph;go_enter Tryz.func291,Tryz.ntmps291;go_wp2_with fail;generalize hWW:(W.alloc _).alloc _=W1;have hb:jb W W1:=by rw[←hWW];exact jal.alloc (by simp) _
  clear hWW;exact bodyPost_ret (v:= .tuple #[]) (by simp[results,Tryz.f291,go_sem]) rfl ⟨rfl,HG.below hb,Tw.of_below hb⟩
 ·have t0:(l.ph==0)=false:=by rw[beq_eq_false_iff_ne];exact hph
  rw[if_neg hph]at HE;clear hph;go_enter Tryz.func291,Tryz.ntmps291;go_upto_region 2 with fail;generalize hw0:(W.alloc _).alloc _=w0
  have r0:jk w0 W.heap.size #[jq bp fp ww.A.length cp,js ao ww.O.length co,va,ww.near] 184:=by
   subst hw0;exact(Below.heap_alloc _ _ _ (by simp)).trans (heap_alloc_new W _)
  have r1:jk w0 (W.heap.size+1) #[l.id,.int .u8 l.ph,.int .i64 (ng:Int),l.left] 99:=by
   subst hw0;exact heap_alloc2_new _ _ _
  have hz:w0.heap.size=W.heap.size+2:=by subst hw0;simp
  have hB0:jb W w0:=by subst hw0;exact jal.alloc (by simp) _
  have HB0:=hI hB0;clear hw0 hB0;go_cut [24,25,26] (fun s24 s25 s26 wx=> ∃(a:Option Addr) (c:Nat),s24= .slice a LL.length c∧s25= .int .i64 (LL.length:Int)∧s26= .int .i64 0∧IntOwn wx w0.heap.size (js a LL.length c) LL∧jb W wx)
  case first=>
   refine zd7 (by kernel_rfl) (by kernel_rfl) (fun f a W0=> ∃s11 s12 s13 s14 s15 s16 s17 s18 s19 s20 s21 s22 s23 s24 s25 s26:Value,a={tmps:=#[.agg #[jq bp fp ww.A.length cp,js ao ww.O.length co,va,ww.near],.agg #[l.id,.int .u8 l.ph,.int .i64 (ng:Int),l.left],.func (.func 292) #[] #[jp gR 0,jp gG 0,jp gL 0],.pointer (some ⟨W.heap.size,0,none⟩),.pointer (some ⟨W.heap.size+1,0,none⟩),undef,undef,undef,.pointer (some ⟨W.heap.size+1,1,none⟩),.int .u8 l.ph,.bool false,s11,s12,s13,s14,s15,s16,s17,s18,s19,s20,s21,s22,s23,s24,s25,s26,undef,undef,undef,undef,undef,undef,undef,undef],defers:=[]}∧R3 w0.heap.size w0 W.heap.size (jq bp fp ww.A.length cp) (jq bp (fp+ng) DP.length (cp-ng)) (js ao ww.O.length co) ng ww.A.length LL (f 0) (f 1) (f 2) (f 3) (f 4) (f 5) (f 6) (f 7) (f 8) (f 9) (f 10) (f 11) (f 12) (f 13) (f 14) (f 15) s11 s12 s13 s14 s15 s16 s17 s18 s19 s20 s21 s22 s23 s24 s25 s26 W0) ?_ ?_ ?_
   ·exact⟨_,_,_,_,_,_,_,_,_,_,_,_,_,_,_,_,rfl,⟨⟨rfl,rfl,rfl,Nat.le_refl _,fun _ _=>rfl⟩,by simp,by simp,by simp,by simp,by simp,by simp,by simp,by simp,by simp,by simp,by simp,by simp,by simp,by simp,by simp,by simp⟩⟩
   ·intro i o ho f a W0 hIv hd hun;obtain⟨s11,s12,s13,s14,s15,s16,s17,s18,s19,s20,s21,s22,s23,s24,s25,s26,rfl,hS⟩:=hIv;have hN:=hS.old.size;have q0:=(hS.old.block W.heap.size (by omega)).trans r0;have q1:=(hS.old.block (W.heap.size+1) (by omega)).trans r1;have hBW:jb W W0:=Below.of_old hS.old HB0 (by omega) (by omega);rcases i with _ | _ | _ | _ | _ | _ | _ | _ | _ | _ | _ | _ | _ | _ | _ | _ | i
    ·simp at ho;subst ho;simp[wpOp,go_sem];exact .inl ⟨_,_,_,_,_,_,_,_,_,_,_,_,_,_,_,_,⟨rfl,rfl,rfl,rfl,rfl,rfl,rfl,rfl,rfl,rfl,rfl,rfl,rfl,rfl,rfl,rfl⟩,{hS with h0:=fun _=>rfl}⟩
    ·simp at ho;subst ho;obtain rfl:=hS.h0 (hd ⟨0,.data⟩ (by simp) (by rfl));have cc:jc W0 W.heap.size 0 (jq bp fp ww.A.length cp):=jr q0;simp[wpOp,go_sem,cc];exact .inl ⟨_,_,_,_,_,_,_,_,_,_,_,_,_,_,_,_,⟨rfl,rfl,rfl,rfl,rfl,rfl,rfl,rfl,rfl,rfl,rfl,rfl,rfl,rfl,rfl,rfl⟩,{hS with h1:=fun _=>rfl}⟩
    ·simp at ho;subst ho;simp[wpOp,go_sem];exact .inl ⟨_,_,_,_,_,_,_,_,_,_,_,_,_,_,_,_,⟨rfl,rfl,rfl,rfl,rfl,rfl,rfl,rfl,rfl,rfl,rfl,rfl,rfl,rfl,rfl,rfl⟩,{hS with h2:=fun _=>rfl}⟩
    ·simp at ho;subst ho;obtain rfl:=hS.h2 (hd ⟨2,.data⟩ (by simp) (by rfl));have cc:jc W0 (W.heap.size+1) 2 (.int .i64 (ng:Int)):=jr q1;simp[wpOp,go_sem,cc];exact .inl ⟨_,_,_,_,_,_,_,_,_,_,_,_,_,_,_,_,⟨rfl,rfl,rfl,rfl,rfl,rfl,rfl,rfl,rfl,rfl,rfl,rfl,rfl,rfl,rfl,rfl⟩,{hS with h3:=fun _=>rfl}⟩
    ·simp at ho;subst ho;obtain rfl:=hS.h3 (hd ⟨3,.data⟩ (by simp) (by rfl));have mm:max (ng:Int) 0=(ng:Int):=(by omega);simp[wpOp,go_sem,mm];exact .inl ⟨_,_,_,_,_,_,_,_,_,_,_,_,_,_,_,_,⟨rfl,rfl,rfl,rfl,rfl,rfl,rfl,rfl,rfl,rfl,rfl,rfl,rfl,rfl,rfl,rfl⟩,{hS with h4:=fun _=>by first | rfl | (simp[mm])}⟩
    ·simp at ho;subst ho;simp[wpOp,go_sem];exact .inl ⟨_,_,_,_,_,_,_,_,_,_,_,_,_,_,_,_,⟨rfl,rfl,rfl,rfl,rfl,rfl,rfl,rfl,rfl,rfl,rfl,rfl,rfl,rfl,rfl,rfl⟩,{hS with h5:=fun _=>rfl}⟩
    ·simp at ho;subst ho;obtain rfl:=hS.h5 (hd ⟨5,.data⟩ (by simp) (by rfl));have cc:jc W0 W.heap.size 0 (jq bp fp ww.A.length cp):=jr q0;simp[wpOp,go_sem,cc];exact .inl ⟨_,_,_,_,_,_,_,_,_,_,_,_,_,_,_,_,⟨rfl,rfl,rfl,rfl,rfl,rfl,rfl,rfl,rfl,rfl,rfl,rfl,rfl,rfl,rfl,rfl⟩,{hS with h6:=fun _=>rfl}⟩
    ·simp at ho;subst ho;obtain rfl:=hS.h6 (hd ⟨6,.data⟩ (by simp) (by rfl));simp[wpOp,go_sem];exact .inl ⟨_,_,_,_,_,_,_,_,_,_,_,_,_,_,_,_,⟨rfl,rfl,rfl,rfl,rfl,rfl,rfl,rfl,rfl,rfl,rfl,rfl,rfl,rfl,rfl,rfl⟩,{hS with h7:=fun _=>rfl}⟩
    ·simp at ho;subst ho;obtain rfl:=hS.h4 (hd ⟨4,.data⟩ (by simp) (by rfl));obtain rfl:=hS.h7 (hd ⟨7,.data⟩ (by simp) (by rfl));have mm:min (ng:Int) (ww.A.length:Int)=(ng:Int):=(by omega);simp[wpOp,go_sem,mm];exact .inl ⟨_,_,_,_,_,_,_,_,_,_,_,_,_,_,_,_,⟨rfl,rfl,rfl,rfl,rfl,rfl,rfl,rfl,rfl,rfl,rfl,rfl,rfl,rfl,rfl,rfl⟩,{hS with h8:=fun _=>by simp;omega}⟩
    ·simp at ho;subst ho;obtain rfl:=hS.h1 (hd ⟨1,.data⟩ (by simp) (by rfl));obtain rfl:=hS.h8 (hd ⟨8,.data⟩ (by simp) (by rfl));have j0:(0:Int)≤(ng:Int):=(by omega);have j1:(ng:Int)≤(ww.A.length:Int):=(by omega);have j2:(ww.A.length:Int)≤(cp:Int):=(by omega);simp[wpOp,go_sem,j0,j1,j2];exact .inl ⟨_,_,_,_,_,_,_,_,_,_,_,_,_,_,_,_,⟨rfl,rfl,rfl,rfl,rfl,rfl,rfl,rfl,rfl,rfl,rfl,rfl,rfl,rfl,rfl,rfl⟩,{hS with h9:=fun _=>by simp[HDL.out];omega}⟩
    ·simp at ho;subst ho;simp[wpOp,go_sem];exact .inl ⟨_,_,_,_,_,_,_,_,_,_,_,_,_,_,_,_,⟨rfl,rfl,rfl,rfl,rfl,rfl,rfl,rfl,rfl,rfl,rfl,rfl,rfl,rfl,rfl,rfl⟩,{hS with h10:=fun _=>rfl}⟩
    ·simp at ho;subst ho;obtain rfl:=hS.h10 (hd ⟨10,.data⟩ (by simp) (by rfl));have cc:jc W0 W.heap.size 1 (js ao ww.O.length co):=jr q0;simp[wpOp,go_sem,cc];exact .inl ⟨_,_,_,_,_,_,_,_,_,_,_,_,_,_,_,_,⟨rfl,rfl,rfl,rfl,rfl,rfl,rfl,rfl,rfl,rfl,rfl,rfl,rfl,rfl,rfl,rfl⟩,{hS with h11:=fun _=>rfl}⟩
    ·simp at ho;subst ho;obtain rfl:=hS.h9 (hd ⟨9,.data⟩ (by simp) (by rfl));obtain rfl:=hS.h11 (hd ⟨11,.data⟩ (by simp) (by rfl));have hb:jb W0 (W0.alloc (.cells #[jq bp (fp+ng) DP.length (cp-ng),js ao ww.O.length co] 54)):=jal;simp[wpOp,go_sem];exact .inl ⟨_,_,_,_,_,_,_,_,_,_,_,_,_,_,_,_,⟨rfl,rfl,rfl,rfl,rfl,rfl,rfl,rfl,rfl,rfl,rfl,rfl,rfl,rfl,rfl,rfl⟩,{R3.below hS hb with h12:=fun _=>⟨_,rfl,by simp,by simp⟩}⟩
    ·simp at ho;subst ho;obtain⟨b,rfl,x0,x1⟩:=hS.h12 (hd ⟨12,.data⟩ (by simp) (by rfl));simp[wpOp,go_sem];refine .inl ((HCO b W0 hBW x0 x1).mono ?_);rintro e w' ⟨a,c,rfl,hown,hb⟩;simp[go_sem];exact⟨_,_,_,_,_,_,_,_,_,_,_,_,_,_,_,_,⟨rfl,rfl,rfl,rfl,rfl,rfl,rfl,rfl,rfl,rfl,rfl,rfl,rfl,rfl,rfl,rfl⟩,{R3.below hS hb with h13:=fun _=>⟨a,c,rfl,zav hown hN⟩}⟩
    ·simp at ho;subst ho;obtain⟨a,c,rfl,o13⟩:=hS.h13 (hd ⟨13,.data⟩ (by simp) (by rfl));simp[wpOp,go_sem];exact .inl ⟨_,_,_,_,_,_,_,_,_,_,_,_,_,_,_,_,⟨rfl,rfl,rfl,rfl,rfl,rfl,rfl,rfl,rfl,rfl,rfl,rfl,rfl,rfl,rfl,rfl⟩,{hS with h14:=fun _=>rfl}⟩
    ·simp at ho;subst ho;simp[wpOp,go_sem];exact .inl ⟨_,_,_,_,_,_,_,_,_,_,_,_,_,_,_,_,⟨rfl,rfl,rfl,rfl,rfl,rfl,rfl,rfl,rfl,rfl,rfl,rfl,rfl,rfl,rfl,rfl⟩,{hS with h15:=fun _=>rfl}⟩
    ·simp at ho
   ·intro f a W0 hIv hall;obtain⟨s11,s12,s13,s14,s15,s16,s17,s18,s19,s20,s21,s22,s23,s24,s25,s26,rfl,hS⟩:=hIv;obtain⟨a,c,rfl,o13⟩:=hS.h13 (hall 13 (by decide));obtain rfl:=hS.h14 (hall 14 (by decide));obtain rfl:=hS.h15 (hall 15 (by decide));have KO:=hI o13;have KB:Hid (jb W W0):=Below.of_old hS.old HB0 (by omega) (by omega);clear hS hall o13 r0 r1 hz;go_wp2_with fail;go_meet
    case rel=>exact⟨a,c,rfl,rfl,rfl,KO,KB⟩
  case rest=>
   obtain⟨a,c,rfl,rfl,rfl,o13,hb⟩:=hcut;have HIL:=hI o13;have HT1:Hid (Tw gR gG W wc):=Tw.of_below hb;have HGC:=hI (HG.below hb);have hwz:w0.heap.size≤wc.heap.size∨True:= .inr trivial;have hll:=HLL8.out;have HIL2:Hid (∀W',Tw gR gG wc W'→IL W' a LL.length LL):=fun W' ht=>IntOwn.il (zkp HIL (fun k k1 k2=>ht.block k k2 (by omega) (by omega)));clear o13 hb r0 r1 hwz;go_wp2_with fail;go_loopg [26] LL.length (fun g' i wr=> ∃(k:Nat) (gk:Gr),k≤LL.length∧g'=LL.length-k∧i= .int .i64 k∧GrM wr gR gG gk v∧Tw gR gG wc wr∧zc4 l.id L g=zc4 l.id (LL.drop k) gk)
   case atStart=>exact⟨0,g,by omega,by omega,rfl,HGC,Tw.refl _ _ _,by rw[HE.out];rfl⟩
   case round=>
    obtain⟨k,gk,hk,rfl,rfl,hg,ht,heq⟩:=hrel;obtain⟨wo,rfl⟩: ∃wo:World,wo=wr:=⟨_,rfl⟩;have HGK:=hI hg;have HTK:=hI ht;have HEQ:=hI heq;have HT0:Hid (Tw gR gG W wo):=HT1.trans ht;clear hg ht heq;by_cases hlt:k<LL.length
    ·obtain⟨b,off,rfl,x0⟩:=(HIL2 _ HTK).cell k hlt;have c0:(0:Int)≤(k:Int):=(by omega);have c1:(k:Int)<(LL.length:Int):=(by omega);have hs:=HPL LL[k] (List.getElem_mem hlt);have HCL:=hI (zuc gR gG gL gk v l.id LL[k] wo HGK (HLK _ HT0) hs.1 hs.2 n1 n2 n3)
     have HF:Hid (zc4 l.id L g=if(zc9 l.id gk LL[k]).ok then zc4 l.id (LL.drop (k+1)) (zc9 l.id gk LL[k])else zc9 l.id gk LL[k]):=by
      show _=_;rw[HEQ.out,List.drop_eq_getElem_cons hlt];rfl
     generalize hG2:zc9 l.id gk LL[k]=G2 at *;clear hG2 hs;unfold zgm at HCL;cases hok:G2.ok with
     | true=>
      rw[hok]at HCL;rw[hok]at HF;clear hok;go_wp2_with fail;refine HCL.mono ?_;rintro e w2 ⟨rfl,hg2,ht2⟩;have HG2:=hI hg2;have HT2:Hid (Tw gR gG wc w2):=HTK.trans ht2;clear hg2 ht2 HCL;go_wp2_with fail;go_roundg (LL.length-(k+1))
      case measure=>go_light;omega
      case rel=>go_light;exact⟨k+1,G2,by omega,by omega,by go_num,HG2,HT2,by simpa using HF.out⟩
     | false=>
      rw[hok]at HCL;rw[hok]at HF;clear hok;go_wp2_with fail;refine HCL.mono ?_;rintro e w2 ⟨rfl,hg2,ht2⟩;have HG2:=hI hg2;have HT2:Hid (Tw gR gG W w2):=HT0.trans ht2;clear hg2 ht2 HCL;go_wp2_with fail;refine bodyPost_ret (v:= .tuple #[]) (by simp[results,Tryz.f291,go_sem]) rfl ⟨rfl,?_,HT2⟩;have hF:=HF.out;simp at hF;rw[hF];exact HG2
    ·obtain rfl:k=LL.length:=by omega
     have HF:Hid (zc4 l.id L g=gk):=by
      show _=_;rw[HEQ.out,List.drop_length];rfl
     go_wp2_with fail;refine bodyPost_ret (v:= .tuple #[]) (by simp[results,Tryz.f291,go_sem]) rfl ⟨rfl,?_,HT0⟩;rw[HF.out];exact HGK
end Go.Proofs.YtbiehpjhhopjaaaGreat
namespace Go.Proofs.YtbiehpjhhopjaaaGreat
open Go.RowKit Go.Sort
def zug (f:FuncId) (caps:Array Value) (R:Tk→Sec→Prop) [∀a b,Decidable (R a b)] (l:List Tk) (m:List Sec) (w:World):Prop:=
 ∀W i (h:i<l.length) (h':i<m.length) (s1:Option Addr) (d1:Nat),jb w W→Calls Tryz.prog f (#[.agg #[l[i].id,.int .u8 l[i].is],.agg #[m[i].id,m[i].pt,js s1 m[i].ends.length d1]]++caps) W (zae W (decide (R l[i] m[i])))
theorem zuh (f:FuncId) (caps:Array Value) (R:Tk→Sec→Prop) [∀a b,Decidable (R a b)] (a1 a2:Option Addr) (c1 c2:Nat) (l:List Tk) (m:List Sec) (w:World) (hl:SlA w 2 RTk a1 c1 l) (hm:SlA w 3 zas a2 c2 m) (h1:l.length≤1000) (h2:m.length≤1000) (hf:zdb f) (hcl:zug f caps R l m w):
  Calls Tryz.prog 284 #[js a1 l.length c1,js a2 m.length c2,.func (.func f) #[] caps] w (zae w (decide (zbn R l m))):=by
 have HL:Hid (∀w',jb w w'→SlA w' 2 RTk a1 c1 l):=fun w' hb=>hl.below ze2 hb;have HM:Hid (∀w',jb w w'→SlA w' 3 zas a2 c2 m):=fun w' hb=>hm.below zbo hb;have hcf: ∀(args:Array Value) (w:World),Sem.run Tryz.prog (callFunc f args) w= .ok (.enter f args) w:=hf;have HCL:=hI hcl;have HE:Hid (zbn R l m↔(l.length=m.length∧ze0 R l m l.length)):=Iff.rfl;have HZ:Hid (∀b,(b=true↔zbn R l m)→decide (zbn R l m)=b):=fun b hb=>by rw[Bool.eq_iff_iff,decide_eq_true_iff];exact hb.symm
 generalize decide (zbn R l m)=Z at *;clear hl hm hcl hf;by_cases hlm0:l.length=m.length
 ·have e0:((l.length:Int) != (m.length:Int))=false:=by simp[hlm0]
  have HLM:=hI hlm0;clear hlm0;go_enter Tryz.func284,Tryz.ntmps284;go_wp2_with fail;go_loopg [17] l.length (fun g i wr=> ∃k:Nat,k≤l.length∧g=l.length-k∧i= .int .i64 k∧jb w wr∧ze0 R l m k)
  case atStart=>exact⟨0,by omega,by omega,rfl,Below.refl _ _,fun i _ _ h=>by omega⟩
  case round=>
   obtain⟨k,hk,rfl,rfl,hb,hno⟩:=hrel;obtain⟨wo,rfl⟩: ∃wo:World,wo=wr:=⟨_,rfl⟩;have HB:=hI hb;have HNO:=hI hno;clear hb hno;by_cases hlt:k<l.length
   ·have hlm:k<m.length:=(by have:=HLM.out;omega);obtain⟨b1,off1,rfl,x0,x1⟩:=(HL _ HB).tk hlt;obtain⟨b2,off2,s1,d1,rfl,y0,y1,y2,hym⟩:=(HM _ HB).sec hlm;have i0:(0:Int)≤(k:Int):=(by omega);have i1:(k:Int)<(l.length:Int):=(by omega);have i2:(k:Int)<(m.length:Int):=(by omega);have l1:=World.block_lt_of_cell? _ _ x0;have l2:=World.block_lt_of_cell? _ _ y0;clear hym;have HC:Hid (∀W',jb wo W'→Calls Tryz.prog f (#[.agg #[l[k].id,.int .u8 l[k].is],.agg #[m[k].id,m[k].pt,js s1 m[k].ends.length d1]]++caps) W' (zae W' (decide (R l[k] m[k])))):=fun W' hb=>HCL W' k hlt hlm s1 d1 (jo HB hb);go_upto_region 7 with fail;generalize hW:(wo.alloc _).alloc _=W;have hbW:jb wo W:=(by rw[←hW];exact jal.alloc (by simp) _);have KW:=jh HB hbW;have HCW:=hI (HC W hbW);have p0:jc W wo.heap.size 0 l[k].id:=(by rw[←hW];simp);have p1:jc W wo.heap.size 1 (.int .u8 l[k].is):=(by rw[←hW];simp);have q0:jc W (wo.heap.size+1) 0 m[k].id:=(by rw[←hW];simp);have q1:jc W (wo.heap.size+1) 1 m[k].pt:=(by rw[←hW];simp);have q2:jc W (wo.heap.size+1) 2 (js s1 m[k].ends.length d1):=(by rw[←hW];simp);clear hW hbW x0 x1 y0 y1 y2 l1 l2 HC;by_cases hr:R l[k] m[k]
    ·have hdr:=decide_eq_true hr;rw[hdr]at HCW;have HS:=hI (zj0 hlt hlm HNO hr);clear hr hdr;go_wp2_with fail;refine HCW.mono ?_;rintro e w1 ⟨rfl,hb1⟩;have K1:=jh KW hb1;clear hb1 HCW p0 q0;go_wp2_with fail;go_roundg (l.length-(k+1))
     case measure=>go_light;omega
     case rel=>go_light;exact⟨k+1,by omega,by omega,by go_num,K1,HS⟩
    ·have hdr:=decide_eq_false hr;rw[hdr]at HCW;have HS:Hid (Z=false):=HZ false (by rw[HE.out];simp only[Bool.false_eq_true,false_iff];exact fun h=>hr (h.2 k hlt hlm hlt));clear hr hdr;go_wp2_with fail;refine HCW.mono ?_;rintro e w1 ⟨rfl,hb1⟩;have K1:=jh KW hb1;clear hb1 HCW p0 q0;go_wp2_with fail;go_ret;exact⟨zab HS.symm,K1⟩
   ·obtain rfl:k=l.length:=(by omega);have HS:Hid (Z=true):=HZ true (by rw[HE.out];simp only[true_iff];exact⟨HLM,HNO⟩);go_wp2_with fail;go_ret;exact⟨zab HS.symm,HB⟩
 ·have e0:((l.length:Int) != (m.length:Int))=true:=by simp;omega
  have HS:Hid (Z=false):=HZ false (by rw[HE.out];simp only[Bool.false_eq_true,false_iff];exact fun h=>hlm0 h.1);clear hlm0;go_enter Tryz.func284,Tryz.ntmps284;go_wp2_with fail;go_ret;exact⟨zab HS.symm,Below.refl _ _⟩
def zui (f:FuncId) (caps:Array Value) (R:Sw→Pt→Prop) [∀a b,Decidable (R a b)] (l:List Sw) (m:List Pt) (w:World):Prop:=
 ∀W i (h:i<l.length) (h':i<m.length),jb w W→Calls Tryz.prog f (#[.agg #[l[i].id,l[i].lie,l[i].call],.agg #[m[i].id,m[i].sec]]++caps) W (zae W (decide (R l[i] m[i])))
theorem zuj (f:FuncId) (caps:Array Value) (R:Sw→Pt→Prop) [∀a b,Decidable (R a b)] (a1 a2:Option Addr) (c1 c2:Nat) (l:List Sw) (m:List Pt) (w:World) (hl:SlA w 3 RSw a1 c1 l) (hm:SlA w 2 RPt a2 c2 m) (h1:l.length≤1000) (h2:m.length≤1000) (hf:zdb f) (hcl:zui f caps R l m w):
  Calls Tryz.prog 286 #[js a1 l.length c1,js a2 m.length c2,.func (.func f) #[] caps] w (zae w (decide (zbn R l m))):=by
 have HL:Hid (∀w',jb w w'→SlA w' 3 RSw a1 c1 l):=fun w' hb=>hl.below zc6 hb;have HM:Hid (∀w',jb w w'→SlA w' 2 RPt a2 c2 m):=fun w' hb=>hm.below zct hb;have hcf: ∀(args:Array Value) (w:World),Sem.run Tryz.prog (callFunc f args) w= .ok (.enter f args) w:=hf;have HCL:=hI hcl;have HE:Hid (zbn R l m↔(l.length=m.length∧ze0 R l m l.length)):=Iff.rfl;have HZ:Hid (∀b,(b=true↔zbn R l m)→decide (zbn R l m)=b):=fun b hb=>by rw[Bool.eq_iff_iff,decide_eq_true_iff];exact hb.symm
 generalize decide (zbn R l m)=Z at *;clear hl hm hcl hf;by_cases hlm0:l.length=m.length
 ·have e0:((l.length:Int) != (m.length:Int))=false:=by simp[hlm0]
  have HLM:=hI hlm0;clear hlm0;go_enter Tryz.func286,Tryz.ntmps286;go_wp2_with fail;go_loopg [17] l.length (fun g i wr=> ∃k:Nat,k≤l.length∧g=l.length-k∧i= .int .i64 k∧jb w wr∧ze0 R l m k)
  case atStart=>exact⟨0,by omega,by omega,rfl,Below.refl _ _,fun i _ _ h=>by omega⟩
  case round=>
   obtain⟨k,hk,rfl,rfl,hb,hno⟩:=hrel;obtain⟨wo,rfl⟩: ∃wo:World,wo=wr:=⟨_,rfl⟩;have HB:=hI hb;have HNO:=hI hno;clear hb hno;by_cases hlt:k<l.length
   ·have hlm:k<m.length:=(by have:=HLM.out;omega);obtain⟨b1,off1,rfl,x0,x1,x2⟩:=(HL _ HB).sw hlt;obtain⟨b2,off2,rfl,y0,y1⟩:=(HM _ HB).pt hlm;have i0:(0:Int)≤(k:Int):=(by omega);have i1:(k:Int)<(l.length:Int):=(by omega);have i2:(k:Int)<(m.length:Int):=(by omega);have l1:=World.block_lt_of_cell? _ _ x0;have l2:=World.block_lt_of_cell? _ _ y0
    skip
    have HC:Hid (∀W',jb wo W'→Calls Tryz.prog f (#[.agg #[l[k].id,l[k].lie,l[k].call],.agg #[m[k].id,m[k].sec]]++caps) W' (zae W' (decide (R l[k] m[k])))):=fun W' hb=>HCL W' k hlt hlm  (jo HB hb);go_upto_region 7 with fail;generalize hW:(wo.alloc _).alloc _=W;have hbW:jb wo W:=(by rw[←hW];exact jal.alloc (by simp) _);have KW:=jh HB hbW;have HCW:=hI (HC W hbW);have p0:jc W wo.heap.size 0 l[k].id:=(by rw[←hW];simp);have p1:jc W wo.heap.size 1 l[k].lie:=(by rw[←hW];simp);have p2:jc W wo.heap.size 2 l[k].call:=(by rw[←hW];simp);have q0:jc W (wo.heap.size+1) 0 m[k].id:=(by rw[←hW];simp);have q1:jc W (wo.heap.size+1) 1 m[k].sec:=(by rw[←hW];simp);clear hW hbW x0 x1 x2 y0 y1 l1 l2 HC;by_cases hr:R l[k] m[k]
    ·have hdr:=decide_eq_true hr;rw[hdr]at HCW;have HS:=hI (zj0 hlt hlm HNO hr);clear hr hdr;go_wp2_with fail;refine HCW.mono ?_;rintro e w1 ⟨rfl,hb1⟩;have K1:=jh KW hb1;clear hb1 HCW p0 q0;go_wp2_with fail;go_roundg (l.length-(k+1))
     case measure=>go_light;omega
     case rel=>go_light;exact⟨k+1,by omega,by omega,by go_num,K1,HS⟩
    ·have hdr:=decide_eq_false hr;rw[hdr]at HCW;have HS:Hid (Z=false):=HZ false (by rw[HE.out];simp only[Bool.false_eq_true,false_iff];exact fun h=>hr (h.2 k hlt hlm hlt));clear hr hdr;go_wp2_with fail;refine HCW.mono ?_;rintro e w1 ⟨rfl,hb1⟩;have K1:=jh KW hb1;clear hb1 HCW p0 q0;go_wp2_with fail;go_ret;exact⟨zab HS.symm,K1⟩
   ·obtain rfl:k=l.length:=(by omega);have HS:Hid (Z=true):=HZ true (by rw[HE.out];simp only[true_iff];exact⟨HLM,HNO⟩);go_wp2_with fail;go_ret;exact⟨zab HS.symm,HB⟩
 ·have e0:((l.length:Int) != (m.length:Int))=true:=by simp;omega
  have HS:Hid (Z=false):=HZ false (by rw[HE.out];simp only[Bool.false_eq_true,false_iff];exact fun h=>hlm0 h.1);clear hlm0;go_enter Tryz.func286,Tryz.ntmps286;go_wp2_with fail;go_ret;exact⟨zab HS.symm,Below.refl _ _⟩
def zuk (f:FuncId) (caps:Array Value) (R:Lk→Rt→Prop) [∀a b,Decidable (R a b)] (l:List Lk) (m:List Rt) (w:World):Prop:=
 ∀W i (h:i<l.length) (h':i<m.length) (s1:Option Addr) (d1:Nat) (s2:Option Addr) (d2:Nat) (s3:Option Addr) (d3:Nat),jb w W→Calls Tryz.prog f (#[.agg #[l[i].id,.int .u8 l[i].ph,l[i].gone,l[i].left],.agg #[m[i].id,m[i].E,m[i].X,js s1 m[i].A.length d1,js s2 m[i].O.length d2,js s3 m[i].fl.length d3,m[i].T]]++caps) W (zae W (decide (R l[i] m[i])))
theorem zul (f:FuncId) (caps:Array Value) (R:Lk→Rt→Prop) [∀a b,Decidable (R a b)] (a1 a2:Option Addr) (c1 c2:Nat) (l:List Lk) (m:List Rt) (w:World) (hl:SlA w 4 RLk a1 c1 l) (hm:SlA w 7 RRt a2 c2 m) (h1:l.length≤1000) (h2:m.length≤1000) (hf:zdb f) (hcl:zuk f caps R l m w):
  Calls Tryz.prog 288 #[js a1 l.length c1,js a2 m.length c2,.func (.func f) #[] caps] w (zae w (decide (zbn R l m))):=by
 have HL:Hid (∀w',jb w w'→SlA w' 4 RLk a1 c1 l):=fun w' hb=>hl.below zc7 hb;have HM:Hid (∀w',jb w w'→SlA w' 7 RRt a2 c2 m):=fun w' hb=>hm.below zcv hb;have hcf: ∀(args:Array Value) (w:World),Sem.run Tryz.prog (callFunc f args) w= .ok (.enter f args) w:=hf;have HCL:=hI hcl;have HE:Hid (zbn R l m↔(l.length=m.length∧ze0 R l m l.length)):=Iff.rfl;have HZ:Hid (∀b,(b=true↔zbn R l m)→decide (zbn R l m)=b):=fun b hb=>by rw[Bool.eq_iff_iff,decide_eq_true_iff];exact hb.symm
 generalize decide (zbn R l m)=Z at *;clear hl hm hcl hf;by_cases hlm0:l.length=m.length
 ·have e0:((l.length:Int) != (m.length:Int))=false:=by simp[hlm0]
  have HLM:=hI hlm0;clear hlm0;go_enter Tryz.func288,Tryz.ntmps288;go_wp2_with fail;go_loopg [17] l.length (fun g i wr=> ∃k:Nat,k≤l.length∧g=l.length-k∧i= .int .i64 k∧jb w wr∧ze0 R l m k)
  case atStart=>exact⟨0,by omega,by omega,rfl,Below.refl _ _,fun i _ _ h=>by omega⟩
  case round=>
   obtain⟨k,hk,rfl,rfl,hb,hno⟩:=hrel;obtain⟨wo,rfl⟩: ∃wo:World,wo=wr:=⟨_,rfl⟩;have HB:=hI hb;have HNO:=hI hno;clear hb hno;by_cases hlt:k<l.length
   ·have hlm:k<m.length:=(by have:=HLM.out;omega);obtain⟨b1,off1,rfl,x0,x1,x2,x3⟩:=(HL _ HB).lk hlt;obtain⟨b2,off2,vp,vo,vf,rfl,y0,y1,y2,y3,y4,y5,y6,hym⟩:=(HM _ HB).rt hlm;obtain⟨s1,d1,rfl,-⟩:=hym.A.at_;obtain⟨s2,d2,rfl,-⟩:=hym.O.at_;obtain⟨s3,d3,rfl,-⟩:=hym.fl;have i0:(0:Int)≤(k:Int):=(by omega);have i1:(k:Int)<(l.length:Int):=(by omega);have i2:(k:Int)<(m.length:Int):=(by omega);have l1:=World.block_lt_of_cell? _ _ x0;have l2:=World.block_lt_of_cell? _ _ y0;clear hym;have HC:Hid (∀W',jb wo W'→Calls Tryz.prog f (#[.agg #[l[k].id,.int .u8 l[k].ph,l[k].gone,l[k].left],.agg #[m[k].id,m[k].E,m[k].X,js s1 m[k].A.length d1,js s2 m[k].O.length d2,js s3 m[k].fl.length d3,m[k].T]]++caps) W' (zae W' (decide (R l[k] m[k])))):=fun W' hb=>HCL W' k hlt hlm s1 d1 s2 d2 s3 d3 (jo HB hb);go_upto_region 7 with fail;generalize hW:(wo.alloc _).alloc _=W;have hbW:jb wo W:=(by rw[←hW];exact jal.alloc (by simp) _);have KW:=jh HB hbW;have HCW:=hI (HC W hbW);have p0:jc W wo.heap.size 0 l[k].id:=(by rw[←hW];simp);have p1:jc W wo.heap.size 1 (.int .u8 l[k].ph):=(by rw[←hW];simp);have p2:jc W wo.heap.size 2 l[k].gone:=(by rw[←hW];simp);have p3:jc W wo.heap.size 3 l[k].left:=(by rw[←hW];simp);have q0:jc W (wo.heap.size+1) 0 m[k].id:=(by rw[←hW];simp);have q1:jc W (wo.heap.size+1) 1 m[k].E:=(by rw[←hW];simp);have q2:jc W (wo.heap.size+1) 2 m[k].X:=(by rw[←hW];simp);have q3:jc W (wo.heap.size+1) 3 (js s1 m[k].A.length d1):=(by rw[←hW];simp);have q4:jc W (wo.heap.size+1) 4 (js s2 m[k].O.length d2):=(by rw[←hW];simp);have q5:jc W (wo.heap.size+1) 5 (js s3 m[k].fl.length d3):=(by rw[←hW];simp);have q6:jc W (wo.heap.size+1) 6 m[k].T:=(by rw[←hW];simp);clear hW hbW x0 x1 x2 x3 y0 y1 y2 y3 y4 y5 y6 l1 l2 HC;by_cases hr:R l[k] m[k]
    ·have hdr:=decide_eq_true hr;rw[hdr]at HCW;have HS:=hI (zj0 hlt hlm HNO hr);clear hr hdr;go_wp2_with fail;refine HCW.mono ?_;rintro e w1 ⟨rfl,hb1⟩;have K1:=jh KW hb1;clear hb1 HCW p0 q0;go_wp2_with fail;go_roundg (l.length-(k+1))
     case measure=>go_light;omega
     case rel=>go_light;exact⟨k+1,by omega,by omega,by go_num,K1,HS⟩
    ·have hdr:=decide_eq_false hr;rw[hdr]at HCW;have HS:Hid (Z=false):=HZ false (by rw[HE.out];simp only[Bool.false_eq_true,false_iff];exact fun h=>hr (h.2 k hlt hlm hlt));clear hr hdr;go_wp2_with fail;refine HCW.mono ?_;rintro e w1 ⟨rfl,hb1⟩;have K1:=jh KW hb1;clear hb1 HCW p0 q0;go_wp2_with fail;go_ret;exact⟨zab HS.symm,K1⟩
   ·obtain rfl:k=l.length:=(by omega);have HS:Hid (Z=true):=HZ true (by rw[HE.out];simp only[true_iff];exact⟨HLM,HNO⟩);go_wp2_with fail;go_ret;exact⟨zab HS.symm,HB⟩
 ·have e0:((l.length:Int) != (m.length:Int))=true:=by simp;omega
  have HS:Hid (Z=false):=HZ false (by rw[HE.out];simp only[Bool.false_eq_true,false_iff];exact fun h=>hlm0 h.1);clear hlm0;go_enter Tryz.func288,Tryz.ntmps288;go_wp2_with fail;go_ret;exact⟨zab HS.symm,Below.refl _ _⟩
theorem zum (args:Array Value) (w:World):Sem.run Tryz.prog (callFunc 283 args) w= .ok (.enter 283 args) w:=by simp[go_sem]
theorem zun:zdb 285:=fun args w=>by simp[go_sem]
theorem zuo:zdb 287:=fun args w=>by simp[go_sem]
theorem zup:zdb 289:=fun args w=>by simp[go_sem]
theorem zkw (n:Int) (w:World):Calls Tryz.prog 283 #[n] w fun e w'=>e= .returned (.bool (decide (0≤n∧n≤2)))∧w=w':=by
 have HE:Hid (∀b,(b=true↔(0≤n∧n≤2))→b=decide (0≤n∧n≤2)):=fun b hb=>by rw[Bool.eq_iff_iff,hb];simp
 generalize decide (0≤n∧n≤2)=B at *;go_enter Tryz.func283,Tryz.ntmps283;go_wp2_with fail
 all_goals
  go_ret;exact⟨zab (HE _ (by simp;omega)),rfl⟩
theorem zuq (x:Tk) (y:Sec) (s1:Option Addr) (d1:Nat) (w:World):Calls Tryz.prog 285 (#[.agg #[x.id,.int .u8 x.is],.agg #[y.id,y.pt,js s1 y.ends.length d1]]++#[]) w (zae w (decide (zdl x y))):=by
 have HE:Hid (∀b,(b=true↔(x.id=y.id∧x.is≤2))→b=decide (zdl x y)):=fun b hb=>by rw[Bool.eq_iff_iff,hb,decide_eq_true_iff];exact Iff.rfl
 generalize decide (zdl x y)=B at *;go_enter Tryz.func285,Tryz.ntmps285;go_wp2_with fail
 all_goals
  go_ret;exact⟨zab (HE _ (by simp_all)),jal.alloc (by simp) _⟩
theorem zur (x:Sw) (y:Pt) (g:Nat) (w:World) (hg:jc w g 0 (.func (.func 283) #[] #[])):Calls Tryz.prog 287 (#[.agg #[x.id,x.lie,x.call],.agg #[y.id,y.sec]]++#[.pointer (some ⟨g,0,none⟩)]) w (zae w (decide (zdh x y))):=by
 have HE:Hid (∀b,(b=true↔(x.id=y.id∧(0≤x.lie∧x.lie≤2)∧(0≤x.call∧x.call≤2)))→b=decide (zdh x y)):=fun b hb=>by rw[Bool.eq_iff_iff,hb,decide_eq_true_iff];exact Iff.rfl
 have hcf:=zum;have l0:=World.block_lt_of_cell? _ _ hg;generalize decide (zdh x y)=B at *;by_cases h1:x.id=y.id
 ·by_cases h2:0≤x.lie∧x.lie≤2
  ·have d2:=decide_eq_true h2;go_enter Tryz.func287,Tryz.ntmps287;go_wp2_with fail;refine(zkw _ _).mono ?_;rintro e w1 ⟨rfl,rfl⟩;rw[d2];go_wp2_with fail;refine(zkw _ _).mono ?_;rintro e w1 ⟨rfl,rfl⟩;go_wp2_with fail
   all_goals
    go_ret;exact⟨zab (HE _ (by simp_all)),jal.alloc (by simp) _⟩
  ·have d2:=decide_eq_false h2;go_enter Tryz.func287,Tryz.ntmps287;go_wp2_with fail;refine(zkw _ _).mono ?_;rintro e w1 ⟨rfl,rfl⟩;rw[d2];have HN:Hid (false=B):=HE false (by simp;intro _ a b;exact absurd ⟨a,b⟩ h2);clear h2 d2;go_wp2_with fail;go_ret;exact⟨zab HN,jal.alloc (by simp) _⟩
 ·have t1:(x.id==y.id)=false:=by rw[beq_eq_false_iff_ne];exact h1
  have HN:Hid (false=B):=HE false (by simp[h1]);clear h1;go_enter Tryz.func287,Tryz.ntmps287;go_wp2_with fail;go_ret;exact⟨zab HN,jal.alloc (by simp) _⟩
theorem zus (l:Lk) (r:Rt) (s1 s2 s3:Option Addr) (d1 d2 d3:Nat) (w:World) (h6:r.A.length≤17592186044416):Calls Tryz.prog 290 #[.agg #[l.id,.int .u8 l.ph,l.gone,l.left],.agg #[r.id,r.E,r.X,js s1 r.A.length d1,js s2 r.O.length d2,js s3 r.fl.length d3,r.T]] w (zae w (decide (zch l r))):=by
 have HE:Hid (∀b,(b=true↔zch l r)→b=decide (zch l r)):=fun b hb=>by rw[Bool.eq_iff_iff,hb];simp
 generalize decide (zch l r)=B at *
 have HP:Hid (zch l r↔(((l.ph=0∨l.ph=1)∧l.gone=0∧l.left=0)∨(l.ph=2∧0≤l.gone∧l.gone≤(r.A.length:Int)-1∧l.left=0)∨
 (l.ph=3∧l.gone=(r.A.length:Int)-1∧1≤l.left∧l.left≤r.T)∨(l.ph=4∧l.gone=0∧1≤l.left∧l.left≤r.T))):=Iff.rfl
 have HB:Hid (jb w ((w.alloc (.cells #[l.id,.int .u8 l.ph,l.gone,l.left] 99)).alloc (.cells #[r.id,r.E,r.X,js s1 r.A.length d1,js s2 r.O.length d2,js s3 r.fl.length d3,r.T] 102))):=jal.alloc (by simp) _;generalize zch l r=PP at *;obtain⟨lid,ph,gone,left⟩:=l;simp only[]at HP HB ⊢;generalize r.T=timer at *;generalize r.A.length=pl at *;by_cases p0:ph=0
 ·subst p0;by_cases h0:gone=0
  ·have t0:(gone==0)=true:=(by simpa using h0);by_cases h1:left=0
   ·have t1:(left==0)=true:=(by simpa using h1);have HN:Hid (true=B):=HE true (by rw[HP.out];simp;omega);clear h0 h1;go_enter Tryz.func290,Tryz.ntmps290;go_wp2_with fail;go_ret;exact⟨zab HN,HB⟩
   ·have t1:(left==0)=false:=(by simpa using h1);have HN:Hid (false=B):=HE false (by rw[HP.out];simp;omega);clear h0 h1;go_enter Tryz.func290,Tryz.ntmps290;go_wp2_with fail;go_ret;exact⟨zab HN,HB⟩
  ·have t0:(gone==0)=false:=(by simpa using h0);have HN:Hid (false=B):=HE false (by rw[HP.out];simp;omega);clear h0;go_enter Tryz.func290,Tryz.ntmps290;go_wp2_with fail;go_ret;exact⟨zab HN,HB⟩
 ·have q0:(ph==0)=false:=by rw[beq_eq_false_iff_ne];exact p0
  by_cases p1:ph=1
  ·subst p1;by_cases h0:gone=0
   ·have t0:(gone==0)=true:=(by simpa using h0);by_cases h1:left=0
    ·have t1:(left==0)=true:=(by simpa using h1);have HN:Hid (true=B):=HE true (by rw[HP.out];simp;omega);clear h0 h1;go_enter Tryz.func290,Tryz.ntmps290;go_wp2_with fail;go_ret;exact⟨zab HN,HB⟩
    ·have t1:(left==0)=false:=(by simpa using h1);have HN:Hid (false=B):=HE false (by rw[HP.out];simp;omega);clear h0 h1;go_enter Tryz.func290,Tryz.ntmps290;go_wp2_with fail;go_ret;exact⟨zab HN,HB⟩
   ·have t0:(gone==0)=false:=(by simpa using h0);have HN:Hid (false=B):=HE false (by rw[HP.out];simp;omega);clear h0;go_enter Tryz.func290,Tryz.ntmps290;go_wp2_with fail;go_ret;exact⟨zab HN,HB⟩
  ·have q1:(ph==1)=false:=(by rw[beq_eq_false_iff_ne];exact p1);by_cases p2:ph=2
   ·subst p2;by_cases h0:0≤gone
    ·have t0:decide (0≤gone)=true:=(by simpa using h0);by_cases h1:gone≤(pl:Int)-1
     ·have t1:decide (gone≤(pl:Int)-1)=true:=(by simpa using h1);by_cases h2:left=0
      ·have t2:(left==0)=true:=(by simpa using h2);have HN:Hid (true=B):=HE true (by rw[HP.out];simp;omega);clear h0 h1 h2;go_enter Tryz.func290,Tryz.ntmps290;go_wp2_with fail;go_ret;exact⟨zab HN,HB⟩
      ·have t2:(left==0)=false:=(by simpa using h2);have HN:Hid (false=B):=HE false (by rw[HP.out];simp;omega);clear h0 h1 h2;go_enter Tryz.func290,Tryz.ntmps290;go_wp2_with fail;go_ret;exact⟨zab HN,HB⟩
     ·have t1:decide (gone≤(pl:Int)-1)=false:=(by simpa using h1);have HN:Hid (false=B):=HE false (by rw[HP.out];simp;omega);clear h0 h1;go_enter Tryz.func290,Tryz.ntmps290;go_wp2_with fail;go_ret;exact⟨zab HN,HB⟩
    ·have t0:decide (0≤gone)=false:=(by simpa using h0);have HN:Hid (false=B):=HE false (by rw[HP.out];simp;omega);clear h0;go_enter Tryz.func290,Tryz.ntmps290;go_wp2_with fail;go_ret;exact⟨zab HN,HB⟩
   ·have q2:(ph==2)=false:=(by rw[beq_eq_false_iff_ne];exact p2);by_cases p3:ph=3
    ·subst p3;by_cases h0:gone=(pl:Int)-1
     ·have t0:(gone==(pl:Int)-1)=true:=(by simpa using h0);by_cases h1:1≤left
      ·have t1:decide (1≤left)=true:=(by simpa using h1);by_cases h2:left≤timer
       ·have t2:decide (left≤timer)=true:=(by simpa using h2);have HN:Hid (true=B):=HE true (by rw[HP.out];simp;omega);clear h0 h1 h2;go_enter Tryz.func290,Tryz.ntmps290;go_wp2_with fail;go_ret;exact⟨zab HN,HB⟩
       ·have t2:decide (left≤timer)=false:=(by simpa using h2);have HN:Hid (false=B):=HE false (by rw[HP.out];simp;omega);clear h0 h1 h2;go_enter Tryz.func290,Tryz.ntmps290;go_wp2_with fail;go_ret;exact⟨zab HN,HB⟩
      ·have t1:decide (1≤left)=false:=(by simpa using h1);have HN:Hid (false=B):=HE false (by rw[HP.out];simp;omega);clear h0 h1;go_enter Tryz.func290,Tryz.ntmps290;go_wp2_with fail;go_ret;exact⟨zab HN,HB⟩
     ·have t0:(gone==(pl:Int)-1)=false:=(by simpa using h0);have HN:Hid (false=B):=HE false (by rw[HP.out];simp;omega);clear h0;go_enter Tryz.func290,Tryz.ntmps290;go_wp2_with fail;go_ret;exact⟨zab HN,HB⟩
    ·have q3:(ph==3)=false:=(by rw[beq_eq_false_iff_ne];exact p3);by_cases p4:ph=4
     ·subst p4;by_cases h0:gone=0
      ·have t0:(gone==0)=true:=(by simpa using h0);by_cases h1:1≤left
       ·have t1:decide (1≤left)=true:=(by simpa using h1);by_cases h2:left≤timer
        ·have t2:decide (left≤timer)=true:=(by simpa using h2);have HN:Hid (true=B):=HE true (by rw[HP.out];simp;omega);clear h0 h1 h2;go_enter Tryz.func290,Tryz.ntmps290;go_wp2_with fail;go_ret;exact⟨zab HN,HB⟩
        ·have t2:decide (left≤timer)=false:=(by simpa using h2);have HN:Hid (false=B):=HE false (by rw[HP.out];simp;omega);clear h0 h1 h2;go_enter Tryz.func290,Tryz.ntmps290;go_wp2_with fail;go_ret;exact⟨zab HN,HB⟩
       ·have t1:decide (1≤left)=false:=(by simpa using h1);have HN:Hid (false=B):=HE false (by rw[HP.out];simp;omega);clear h0 h1;go_enter Tryz.func290,Tryz.ntmps290;go_wp2_with fail;go_ret;exact⟨zab HN,HB⟩
      ·have t0:(gone==0)=false:=(by simpa using h0);have HN:Hid (false=B):=HE false (by rw[HP.out];simp;omega);clear h0;go_enter Tryz.func290,Tryz.ntmps290;go_wp2_with fail;go_ret;exact⟨zab HN,HB⟩
     ·have q4:(ph==4)=false:=(by rw[beq_eq_false_iff_ne];exact p4);have HN:Hid (false=B):=HE false (by rw[HP.out];simp;omega);clear p0 p1 p2 p3 p4;go_enter Tryz.func290,Tryz.ntmps290;go_wp2_with fail;go_ret;exact⟨zab HN,HB⟩
theorem zut (x:Lk) (y:Rt) (s1 s2 s3:Option Addr) (d1 d2 d3:Nat) (w:World) (h6:y.A.length≤17592186044416):Calls Tryz.prog 289 (#[.agg #[x.id,.int .u8 x.ph,x.gone,x.left],.agg #[y.id,y.E,y.X,js s1 y.A.length d1,js s2 y.O.length d2,js s3 y.fl.length d3,y.T]]++#[]) w (zae w (decide (zdw x y))):=by
 have HE:Hid (∀b,(b=true↔(x.id=y.id∧zch x y))→b=decide (zdw x y)):=fun b hb=>by rw[Bool.eq_iff_iff,hb,decide_eq_true_iff];exact Iff.rfl
 have HC:Hid (∀w,Calls Tryz.prog 290 #[.agg #[x.id,.int .u8 x.ph,x.gone,x.left],.agg #[y.id,y.E,y.X,js s1 y.A.length d1,js s2 y.O.length d2,js s3 y.fl.length d3,y.T]] w (zae w (decide (zch x y)))):=fun w=>zus x y s1 s2 s3 d1 d2 d3 w h6;generalize decide (zdw x y)=B at *;by_cases h1:x.id=y.id
 ·have t1:(x.id==y.id)=true:=by rw[beq_iff_eq];exact h1
  have HD:Hid (decide (zch x y)=B):=HE _ (by simp[h1]);generalize decide (zch x y)=D at *;clear h1;go_enter Tryz.func289,Tryz.ntmps289;go_wp2_with fail;refine(HC _).mono ?_;rintro e w1 ⟨rfl,hb1⟩;have K1:Hid (jb w w1):=(jal.alloc (by simp) _).trans (hb1.mono (by simp;omega));clear hb1 HC;go_wp2_with fail;go_ret;exact⟨zab HD,K1⟩
 ·have t1:(x.id==y.id)=false:=by rw[beq_eq_false_iff_ne];exact h1
  have HN:Hid (false=B):=HE false (by simp[h1]);clear h1;go_enter Tryz.func289,Tryz.ntmps289;go_wp2_with fail;go_ret;exact⟨zab HN,jal.alloc (by simp) _⟩
end Go.Proofs.YtbiehpjhhopjaaaGreat
