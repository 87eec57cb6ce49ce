/-
 way.All,walked.
-/
import Derived.Test.YtbiehpjhhopjaaaGreatTWayG
import Derived.Test.YtbiehpjhhopjaaaGreatTData
import Derived.Test.YtbiehpjhhopjaaaGreatTWayA
set_option linter.unusedVariables false
set_option linter.unusedSimpArgs false
set_option maxRecDepth 100000
set_option maxHeartbeats 16000000
namespace Go.Proofs.YtbiehpjhhopjaaaGreat
open Go.RowKit Go.Sort
def MA:TypeId→Bool:=fun t=>t==184 || t==78 || t==171 || t==4
def MG:TypeId→Bool:=fun t=>t==171 || t==4
theorem ztt: ∀t,MG t=true→MA t=true:=fun t h=>by simp[MG,MA]at h ⊢;rcases h with h | h<;>simp[h]
theorem ztu {M M2:TypeId→Bool}(w:World) (hs: ∀t,M2 t=true→M t=true):Ext (zb0 M w) (zb0 M2 w):=fun a v h=>by
 obtain⟨c,t,fr,h1,h2⟩:=zj1 h
 have h3:M2 t=false:=by
  cases e:M2 t
  ·rfl
  ·rw[hs t e]at h2;cases h2
 have h4:=zio M w a v h;have h5:(zb0 M2 w).heap[a.block]? =w.heap[a.block]? :=(zhn h1 h3).trans h1.symm;exact(World.cell?_of_block (w:=w) h5).trans h4
theorem RowsX.slM {α:Type}{M M2:TypeId→Bool}{w:World}{base:Nat}{T:TypeId}{sz:Nat}{R:World→List Value→α→Prop}{v:Value}{l:List α}{xss:List (List Value)}(h:RowsX M w base T sz R v l xss) (hR:KeepsC R) (hs: ∀t,M2 t=true→M t=true) (hT:M2 T=false):Sl (zb0 M2 w) sz R v l:=by
 have hl:=h.len;have ho:=zho h.own hT;rcases h.own.2 with⟨rfl,h0⟩ | ⟨g,cap,cur,rfl,hbg,hgg,hc,hm,hs2,ht⟩
 ·have hn:l=[]:=List.eq_nil_of_length_eq_zero (by omega);subst hn;exact Sl.nil _ _ _
 ·refine⟨some ⟨g,0,none⟩,cap,by rw[hl],by rw[←hl];exact hc,(fun h=>nomatch h),fun i hi=> ?_⟩;have hi':i<xss.length:=by rw[hl];exact hi
  refine⟨g,0,xss[i],rfl,h.sz _ (List.getElem_mem hi'),fun j hj=> ?_,hR _ _ _ _ (ztu w hs) (h.rd i hi' hi)⟩
  have h1:(xss.flatMap id)[i * sz+j]? =some xss[i][j]:=by
   rw[zdm id sz xss i j hi' h.sz (by rw[←h.sz _ (List.getElem_mem hi')];exact hj)];exact List.getElem?_eq_getElem hj
  have h2:=ho.cells (g:=g) rfl (i * sz+j) _ h1;rw[zfc]at h2;rw[Nat.zero_add];exact h2
def zkq (v:Value):Prop:= ∀a n c,v= .slice a n c→n≤c
theorem ztv {w:World}{base:Nat}{e:TypeId}{sz:Nat}{v:Value}{n:Nat}{xs:List Value}(h:w.ownsRow base e sz v n xs):zkq v:=by
 intro a m c hv;rcases h.2 with⟨h1,_⟩ | ⟨g,cap,cur,h1,_,_,hc,_⟩
 ·rw[h1]at hv;cases hv;exact Nat.le_refl _
 ·rw[h1]at hv;cases hv;exact hc
def RWy (w:World) (vs:List Value) (x:Wy):Prop:= ∃vp vo va,vs=[vp,vo,va,.int .i64 x.near]∧ILv w vp x.A∧ILv w vo x.O∧zhm w va x.asks∧zkq vp
def RJl (w:World) (vs:List Value) (x:List Jn):Prop:= ∃v,vs=[v]∧Jns w v x
def Wys (w:World) (v:Value) (l:List Wy):Prop:=Sl w 4 RWy v l
def Jls (w:World) (v:Value) (l:List (List Jn)):Prop:=Sl w 1 RJl v l
theorem keepsC_wy:KeepsC RWy:=fun _ _ _ _ he ⟨vp,vo,va,h1,h2,h3,h4,h5⟩=>⟨vp,vo,va,h1,h2.ext he,h3.ext he,h4.ext zmg he,h5⟩
theorem keepsC_jl:KeepsC RJl:=fun _ _ _ _ he ⟨v,h1,h2⟩=>⟨v,h1,h2.ext zim he⟩
theorem ztw:(Tryz.prog.info? 184).map (fun i=>(i.zero,i.size,i.bytes))=some (some (.agg #[.slice none 0 0,.slice none 0 0,.slice none 0 0,.int .i64 0]),4,80):=by kernel_rfl
theorem ztx:(Tryz.prog.info? 78).map (fun i=>(i.zero,i.size,i.bytes))=some (some (.slice none 0 0),1,24):=by kernel_rfl
def zkr (w:World) (p:Pl) (e:Ending) (w':World):Prop:=
 jb w w'∧
 ((¬zaq p∧e= .returned (.tuple #[.slice none 0 0,.slice none 0 0,.int .i64 8]))∨
  (zaq p∧ ¬zgg p∧e= .returned (.tuple #[.slice none 0 0,.slice none 0 0,.int .i64 90]))∨
  (zaq p∧zgg p∧ ∃v1 v2,e= .returned (.tuple #[v1,v2,.int .i64 0])∧Wys (zb0 MG w') v1 (p.R.map (zao p))∧Jls w' v2 (p.R.map (zbk p))))
theorem zty (a b c:Option Addr) (l m n i j k:Nat) (x:Int): ∀u∈[Value.slice a l i,.slice b m j,.slice c n k,.int .i64 x],u.oneCell'=true:=by
 intro u hu;simp only[List.mem_cons,List.not_mem_nil,or_false]at hu;rcases hu with rfl | rfl | rfl | rfl<;>rfl
theorem ztz (a:Option Addr) (l i:Nat): ∀u∈[Value.slice a l i],u.oneCell'=true:=by
 intro u hu;simp only[List.mem_cons,List.not_mem_nil,or_false]at hu;rcases hu with rfl;rfl
theorem zm6 (p:Pl) (s q gg rr:Value) (w:World) (hp:PlM w s q gg rr p) (hf:p.Fit):Calls Tryz.prog 120 #[plV p s q gg rr] w (zkr w p):=by
 have HCK:Hid (∀w',jb w w'→Calls Tryz.prog 208 #[plV p s q gg rr] w' (zdz w' (if zaq p then 0 else 8))):=fun w' hb=>zs0 p s q gg rr w' (hp.below hb) hf
 have HFO:Hid (zaq p→ ∀k (h:k<p.R.length) vp vo vf w',jb w w'→RtM w' vp vo vf p.R[k]→Calls Tryz.prog 209 #[plV p s q gg rr,.agg #[p.R[k].id,p.R[k].E,p.R[k].X,vp,vo,vf,p.R[k].T]] w' (zm5 w' p p.R[k])):=
  fun hM k h vp vo vf w' hb hr=>zts p p.R[k] s q gg rr vp vo vf w' (hp.below hb) hf hr hM (hM.2.2 k h h)
 obtain⟨a1,c1,rfl,-⟩:=hp.S;obtain⟨a2,c2,rfl,-⟩:=hp.P;obtain⟨a3,c3,rfl,-⟩:=hp.G;obtain⟨a4,c4,rfl,k4⟩:=hp.R;have HR:Hid (∀w',jb w w'→SlA w' 7 RRt a4 c4 p.R):=fun w' hb=>k4.below zcv hb;have hr:=hf.R;clear hp hf k4;unfold plV at *;go_enter Tryz.func120,Tryz.ntmps120;go_wp2_with fail;generalize hW:w.alloc _=W;have hbW:jb w W:=by rw[←hW];exact jal
 have K0:=hI hbW
 have HY:Hid (∀W',jb W W'→jc W' w.heap.size 0 p.ver∧jc W' w.heap.size 1 p.par∧jc W' w.heap.size 2 (js a1 p.S.length c1)∧jc W' w.heap.size 3 (js a2 p.P.length c2)∧jc W' w.heap.size 4 (js a3 p.G.length c3)∧jc W' w.heap.size 5 (js a4 p.R.length c4)∧w.heap.size<W'.heap.size):=fun W' hb=>
  ⟨zac hb (by rw[←hW];simp),zac hb (by rw[←hW];simp),zac hb (by rw[←hW];simp),zac hb (by rw[←hW];simp),zac hb (by rw[←hW];simp),zac hb (by rw[←hW];simp),Nat.lt_of_lt_of_le (by rw[←hW];simp) hb.size⟩
 clear hW hbW;refine(HCK W K0).mono ?_;rintro e w1 ⟨rfl,hb1⟩;have HB1:=hI hb1;have K1:=jh K0 hb1;clear hb1 HCK;by_cases hM:zaq p
 ·rw[if_pos hM];have HM:=hI hM;have HFF:=hI (HFO hM);obtain⟨y0,y1,y2,y3,y4,y5,ly⟩:=HY _ HB1;clear hM HFO;go_wp2_with fail;go_loopg [2,3,4,17] p.R.length (fun g i1 i2 i4 j wr=> ∃(k:Nat) (b1 b2:Option Addr) (d1 d2:Nat) (x1 x2:List (List Value)),k≤p.R.length∧g=p.R.length-k∧i1= .slice b1 k d1∧i2= .slice b2 k d2∧i4= .int .i64 0∧j= .int .i64 k∧jb W wr∧RowsX MA wr W.heap.size 184 4 RWy (js b1 k d1) ((p.R.take k).map (zao p)) x1∧RowsX MA wr W.heap.size 78 1 RJl (js b2 k d2) ((p.R.take k).map (zbk p)) x2∧zgy p k)
  case atStart=>exact⟨0,none,none,0,0,[],[],by omega,by omega,rfl,rfl,rfl,rfl,HB1,RowsX.nil,RowsX.nil,fun i hi h=>absurd h (by omega)⟩
  case round=>
   obtain⟨k,b1,b2,d1,d2,x1,x2,hk,rfl,rfl,rfl,rfl,rfl,hb,hx1,hx2,hA⟩:=hrel;obtain⟨wo,rfl⟩: ∃wo:World,wo=wr:=⟨_,rfl⟩;have HB:=hI hb;have HX1:=hI hx1;have HX2:=hI hx2;have HA:=hI hA;have HB0:=jh K0 hb;clear hb hA hx1 hx2 y0 y1 y2 y3 y4 y5 ly;by_cases hlt:k<p.R.length
   ·obtain⟨b,off,vp,vo,vf,rfl,r0,r1,r2,r3,r4,r5,r6,hrm⟩:=(HR _ HB0).rt hlt;obtain⟨ap,cp,rfl,-⟩:=hrm.A.at_;obtain⟨ao,co,rfl,-⟩:=hrm.O.at_;obtain⟨af,cf,rfl,-⟩:=hrm.fl;have HRM:=hI hrm;have e0:(0:Int)≤(k:Int):=(by omega);have e1:(k:Int)<(p.R.length:Int):=(by omega);have lb:=World.block_lt_of_cell? _ _ r0;clear hrm;go_upto_region 6 with fail;generalize hW6:wo.alloc _=W6;have hb6:jb wo W6:=(by rw[←hW6];exact jal);have HB6:=jh HB hb6;have HB06:=jh HB0 hb6;have q0:jc W6 wo.heap.size 0 p.R[k].id:=(by rw[←hW6];simp);have q1:jc W6 wo.heap.size 1 p.R[k].E:=(by rw[←hW6];simp);have q2:jc W6 wo.heap.size 2 p.R[k].X:=(by rw[←hW6];simp);have q3:jc W6 wo.heap.size 3 (js ap p.R[k].A.length cp):=(by rw[←hW6];simp);have q4:jc W6 wo.heap.size 4 (js ao p.R[k].O.length co):=(by rw[←hW6];simp);have q5:jc W6 wo.heap.size 5 (js af p.R[k].fl.length cf):=(by rw[←hW6];simp);have q6:jc W6 wo.heap.size 6 p.R[k].T:=(by rw[←hW6];simp);have HX16:=hI (HX1.below keepsC_wy hb6);have HX26:=hI (HX2.below keepsC_jl hb6);have HRM6:=hI (HRM.below hb6);obtain⟨y0,y1,y2,y3,y4,y5,ly⟩:=HY _ HB6;have HCL:=hI (HFF k hlt _ _ _ W6 HB06 HRM6);clear hW6 hb6 r0 r1 r2 r3 r4 r5 r6 lb HX1 HX2;go_wp2_with fail;refine HCL.mono ?_;rintro e w7 ⟨hb7,hfol⟩;have HB7:=jh HB6 hb7;have HB07:=jh HB06 hb7;have HX17:=hI (HX16.below keepsC_wy hb7);have HX27:=hI (HX26.below keepsC_jl hb7);clear hb7 HCL HX16 HX26 y0 y1 y2 y3 y4 y5 ly q0 q1 q2 q3 q4 q5 q6;rcases hfol with⟨hL,rfl⟩ | ⟨hL,vp,vo,va,vx,rfl,o1,o2,o3,o4⟩
    ·have HNW:Hid (¬zgg p):=fun h=>by have:=h k hlt hlt;rw[hL]at this;cases this
     clear hL;go_wp2_with fail;exact bodyPost_ret (v:= .tuple #[.slice none 0 0,.slice none 0 0,.int .i64 90]) (by simp[results,Tryz.f120,go_sem]) rfl ⟨HB07.alloc HB07.size _,.inr (.inl ⟨HM,HNW,rfl⟩)⟩
    ·obtain⟨ap',cp',rfl⟩:=o1.slice;obtain⟨ao',co',rfl⟩:=o2.slice;obtain⟨aa',ca',rfl⟩:=zeq o3;obtain⟨ax',cx',rfl⟩:=zeq o4;have HST:=hI (zrn hlt HA hL);have O1:=hI o1;have HC1:=hI (ztv o1);have O2:=hI o2;have O3:=hI o3;have O4:=hI o4;clear hL o1 o2 o3 o4;go_upto_region 9 with fail;generalize hWA:w7.alloc _=WA;have hbA:jb w7 WA:=(by rw[←hWA];exact jal);have HBA:=jh HB7 hbA;have u0:jc WA w7.heap.size 0 (js ap' p.R[k].A.length cp'):=(by rw[←hWA];simp);have u1:jc WA w7.heap.size 1 (js ao' p.R[k].O.length co'):=(by rw[←hWA];simp);have u2:jc WA w7.heap.size 2 (js aa' (zao p p.R[k]).asks.length ca'):=(by rw[←hWA];simp);have u3:jc WA w7.heap.size 3 (.int .i64 (zao p p.R[k]).near):=(by rw[←hWA];simp);have hX1:=HX17.below keepsC_wy hbA;have hX2:=HX27.below keepsC_jl hbA;have hx1l:x1.length=k:=(by have:=hX1.len;simp at this;omega);have hx2l:x2.length=k:=(by have:=hX2.len;simp at this;omega);have HX1A:=hI hX1;have HX2A:=hI hX2;have OW1:Hid (WA.ownsRow W.heap.size 184 4 (js b1 k d1) k (x1.flatMap id)):=(by have:=hX1.own;rw[hx1l]at this;exact this);have HL1:=hI hx1l;have HL2:=hI hx2l;have O1A:Hid (ILv (zb0 MA WA) (js ap' p.R[k].A.length cp') p.R[k].A):=zj2 (zho (zau O1 hbA) rfl);have O2A:Hid (ILv (zb0 MA WA) (js ao' p.R[k].O.length co') p.R[k].O):=zj2 (zho (zau O2 hbA) rfl);have O3A:Hid (zhm (zb0 MA WA) (js aa' (zao p p.R[k]).asks.length ca') (zao p p.R[k]).asks):=AskOwn.sl (zho (zau O3 hbA) rfl);have O4A:Hid (Jns (zb0 MA WA) (js ax' (zbk p p.R[k]).length cx') (zbk p p.R[k])):=JnOwn.sl (zho (zau O4 hbA) rfl);have HRW:Hid (RWy (zb0 MA WA) [.slice ap' p.R[k].A.length cp',.slice ao' p.R[k].O.length co',.slice aa' (zao p p.R[k]).asks.length ca',.int .i64 (zao p p.R[k]).near] (zao p p.R[k])):=⟨_,_,_,rfl,O1A,O2A,O3A,HC1⟩;have HRJ:Hid (RJl (zb0 MA WA) [.slice ax' (zbk p p.R[k]).length cx'] (zbk p p.R[k])):=⟨_,rfl,O4A⟩;have HT1:Hid ((p.R.take (k+1)).map (zao p)=(p.R.take k).map (zao p)++[zao p p.R[k]]):=(by show _=_;rw[List.take_succ_eq_append_getElem hlt,List.map_append];rfl);have HT2:Hid ((p.R.take (k+1)).map (zbk p)=(p.R.take k).map (zbk p)++[zbk p p.R[k]]):=(by show _=_;rw[List.take_succ_eq_append_getElem hlt,List.map_append];rfl);have hk1000:k≤1000:=(by omega);have hbase:W.heap.size≤WA.heap.size:=HBA.size;generalize zao p p.R[k]=WY at *;generalize zbk p p.R[k]=OU at *;clear hWA hbA hX1 hX2 hx1l hx2l
     go_wp2_with (first
      | (at_builtin;refine zey rfl _ _ 169 184 184 _ 4 80 rfl Tryz.underlying169 ztw rfl (by decide) (by decide) W.heap.size (js b1 k d1) k _ rfl OW1 hk1000 hbase [.slice ap' p.R[k].A.length cp',.slice ao' p.R[k].O.length co',.slice aa' WY.asks.length ca',.int .i64 WY.near] rfl rfl (zty _ _ _ _ _ _ _ _ _ _) ?_;intro b8 c8 w8 hown8 hgr8;have hb8:W.heap.size≤w8.heap.size:=Nat.le_trans hbase (Nat.le_trans (by simp) hgr8.size);have OW2:w8.ownsRow W.heap.size 78 1 (js b2 k d2) k (x2.flatMap id):=by {have:=((HX2A.below keepsC_jl ((Below.refl _ WA).alloc (Nat.le_refl _) _)).other keepsC_jl (OW1.alloc _) rfl (by decide) hgr8).own;rw[HL2.out]at this;exact this})
      | (at_builtin;refine zey rfl _ _ 178 78 78 _ 1 24 rfl Tryz.underlying178 ztx rfl (by decide) (by decide) W.heap.size (js b2 k d2) k _ rfl OW2 hk1000 hb8 [.slice ax' OU.length cx'] rfl rfl (ztz _ _ _) ?_;intro b9 c9 w9 hown9 hgr9))
     have hbA1:jb WA (WA.alloc (.cells [Value.slice ap' p.R[k].A.length cp',.slice ao' p.R[k].O.length co',.slice aa' WY.asks.length ca',.int .i64 WY.near].toArray 184)):=jal;have hX18:=(HX1A.below keepsC_wy hbA1).app keepsC_wy rfl rfl (keepsC_wy _ _ _ _ (Same.of_below hbA1).ext HRW) (by rw[HL1.out];exact hown8) hgr8;have hX28:=(HX2A.below keepsC_jl hbA1).other keepsC_jl (OW1.alloc _) rfl (by decide) hgr8;have hb89:jb w8 (w8.alloc (.cells [Value.slice ax' OU.length cx'].toArray 78)):=jal;have hrj8:RJl (zb0 MA w8) [.slice ax' OU.length cx'] OU:=keepsC_jl _ _ _ _ ((Same.of_below hbA1).trans (zhp (OW1.alloc _) rfl hgr8)).ext HRJ;have hX29:=(hX28.below keepsC_jl hb89).app keepsC_jl rfl rfl (keepsC_jl _ _ _ _ (Same.of_below hb89).ext hrj8) (by rw[HL2.out];exact hown9) hgr9;have hX19:=(hX18.below keepsC_wy hb89).other keepsC_wy (OW2.alloc _) rfl (by decide) hgr9;have hB8:jb W w8:=(HBA.alloc hbase _).trans (zcw (OW1.alloc _) (Nat.le_refl _) (by simp;omega) hgr8);have hB9:jb W w9:=(hB8.alloc hb8 _).trans (zcw (OW2.alloc _) (Nat.le_refl _) (by simp;omega) hgr9);rw[←HT1.out]at hX19;rw[←HT2.out]at hX29;go_roundg (p.R.length-(k+1))
     case measure=>go_light;omega
     case rel=>go_light;exact⟨k+1,_,_,_,_,_,_,by omega,by omega,rfl,rfl,rfl,by go_num,hB9,hX19,hX29,HST⟩
   ·obtain rfl:k=p.R.length:=(by omega);go_wp2_with fail;have h1:=HX1.slM keepsC_wy ztt rfl;have h2:=HX2.sl keepsC_jl;rw[List.take_length]at h1 h2;exact bodyPost_ret (v:= .tuple #[js b1 p.R.length d1,js b2 p.R.length d2,.int .i64 0]) (by simp[results,Tryz.f120,go_sem]) rfl ⟨HB0,.inr (.inr ⟨HM,HA,_,_,rfl,h1,h2⟩)⟩
 ·rw[if_neg hM];have HM:=hI hM;clear hM;go_wp2_with fail;exact bodyPost_ret (v:= .tuple #[.slice none 0 0,.slice none 0 0,.int .i64 8]) (by simp[results,Tryz.f120,go_sem]) rfl ⟨K1,.inl ⟨HM,rfl⟩⟩
def zaj (p:Pl):Prop:=zaq p∧zgg p∧zf2 p p.R.length
instance (p:Pl):Decidable (zaj p):=by unfold zaj;exact inferInstance
theorem SlA.wy {w:World}{a:Option Addr}{cap:Nat}{l:List Wy}(h:SlA w 4 RWy a cap l){i:Nat}(hi:i<l.length): ∃b off vp vo va,a=some ⟨b,off,none⟩∧jc w b (off+i * 4) vp∧jc w b (off+i * 4+1) vo∧jc w b (off+i * 4+2) va∧jc w b (off+i * 4+3) l[i].near∧ILv w vp l[i].A∧ILv w vo l[i].O∧zhm w va l[i].asks:=by
 obtain⟨b,off,vs,e,hl,hc,vp,vo,va,rfl,h1,h2,h3,-⟩:=h.at_ i hi;exact⟨b,off,vp,vo,va,e,hc 0 (by simp),hc 1 (by simp),hc 2 (by simp),hc 3 (by simp),h1,h2,h3⟩
theorem SlA.wyc {w:World}{a:Option Addr}{cap:Nat}{l:List Wy}(h:SlA w 4 RWy a cap l){i:Nat}(hi:i<l.length): ∃b off vp vo va,a=some ⟨b,off,none⟩∧jc w b (off+i * 4) vp∧jc w b (off+i * 4+1) vo∧jc w b (off+i * 4+2) va∧jc w b (off+i * 4+3) l[i].near∧ILv w vp l[i].A∧ILv w vo l[i].O∧zhm w va l[i].asks∧zkq vp:=by
 obtain⟨b,off,vs,e,hl,hc,vp,vo,va,rfl,h1,h2,h3,h4⟩:=h.at_ i hi;exact⟨b,off,vp,vo,va,e,hc 0 (by simp),hc 1 (by simp),hc 2 (by simp),hc 3 (by simp),h1,h2,h3,h4⟩
theorem SlA.jl {w:World}{a:Option Addr}{cap:Nat}{l:List (List Jn)}(h:SlA w 1 RJl a cap l){i:Nat}(hi:i<l.length): ∃b off v,a=some ⟨b,off,none⟩∧jc w b (off+i) v∧Jns w v l[i]:=by
 obtain⟨b,off,vs,e,hl,hc,v,rfl,h1⟩:=h.at_ i hi;exact⟨b,off,v,e,by simpa using hc 0 (by simp),h1⟩
theorem ziv (p:Pl) (s q gg rr:Value) (w:World) (hp:PlM w s q gg rr p) (hf:p.Fit):Calls Tryz.prog 58 #[plV p s q gg rr] w (zdz w (if zaj p then 0 else 100)):=by
 have HAL:Hid (∀w',jb w w'→Calls Tryz.prog 120 #[plV p s q gg rr] w' (zkr w' p)):=fun w' hb=>zm6 p s q gg rr w' (hp.below hb) hf
 have HCLR:Hid (∀k (h:k<p.R.length) vp vo vf a cap (outs:List Jn) w',jb w w'→RtM w' vp vo vf p.R[k]→SlA w' 2 RJn a cap outs→outs.length≤1000→p.R[k].A.length≤6→p.R[k].A.length≤outs.length→Calls Tryz.prog 122 #[plV p s q gg rr,.agg #[p.R[k].id,p.R[k].E,p.R[k].X,vp,vo,vf,p.R[k].T],js a outs.length cap] w' (zae w' (decide (zea p p.R[k] outs)))):=
  fun k h vp vo vf a cap outs w' hb h1 h2 h3 h4 h5=>zs2 p p.R[k] s q gg rr vp vo vf a cap outs w' (hp.below hb) hf h1 h2 h3 h4 h5
 have HE:Hid (∀n:Int,(zaj p→n=0)→(¬zaj p→n=100)→(if zaj p then(0:Int)else 100)=n):=fun n h1 h2=>by
  by_cases h:zaj p
  ·rw[if_pos h,h1 h]
  ·rw[if_neg h,h2 h]
 have HU:Hid (zaj p↔zaq p∧zgg p∧zf2 p p.R.length):=Iff.rfl;generalize(if zaj p then(0:Int)else 100)=E at *;obtain⟨a1,c1,rfl,-⟩:=hp.S;obtain⟨a2,c2,rfl,-⟩:=hp.P;obtain⟨a3,c3,rfl,-⟩:=hp.G;obtain⟨a4,c4,rfl,k4⟩:=hp.R;have HR:Hid (∀w',jb w w'→SlA w' 7 RRt a4 c4 p.R):=fun w' hb=>k4.below zcv hb;have hr:=hf.R;clear hp hf k4;unfold plV at *;go_enter Tryz.func58,Tryz.ntmps58;go_wp2_with fail;generalize hW:w.alloc _=W;have hbW:jb w W:=by rw[←hW];exact jal
 have K0:=hI hbW
 have HY:Hid (∀W',jb W W'→jc W' w.heap.size 0 p.ver∧jc W' w.heap.size 1 p.par∧jc W' w.heap.size 2 (js a1 p.S.length c1)∧jc W' w.heap.size 3 (js a2 p.P.length c2)∧jc W' w.heap.size 4 (js a3 p.G.length c3)∧jc W' w.heap.size 5 (js a4 p.R.length c4)∧w.heap.size<W'.heap.size):=fun W' hb=>
  ⟨zac hb (by rw[←hW];simp),zac hb (by rw[←hW];simp),zac hb (by rw[←hW];simp),zac hb (by rw[←hW];simp),zac hb (by rw[←hW];simp),zac hb (by rw[←hW];simp),Nat.lt_of_lt_of_le (by rw[←hW];simp) hb.size⟩
 clear hW hbW;refine(HAL W K0).mono ?_;rintro e w1 ⟨hb1,hall⟩;have HB1:=hI hb1;have K1:=jh K0 hb1;clear hb1 HAL;rcases hall with⟨hM,rfl⟩ | ⟨hM,hWM,rfl⟩ | ⟨hM,hWM,v1,v2,rfl,hv1,hv2⟩
 ·have HE8:Hid (E=100):=HE 100 (fun h=>absurd h.1 hM) (fun _=>rfl);clear hM;go_wp2_with fail;go_ret;exact⟨za0 HE8.symm,K1⟩
 ·have HE8:Hid (E=100):=HE 100 (fun h=>absurd h.2.1 hWM) (fun _=>rfl);clear hM hWM;go_wp2_with fail;go_ret;exact⟨za0 HE8.symm,K1⟩
 ·have HM:=hI hM;have HWM:=hI hWM;obtain⟨b1,d1,rfl,h1⟩:=Sl.ext keepsC_wy hv1 (zio MG w1);obtain⟨b2,d2,rfl,h2⟩:=hv2;have HV1:Hid (∀W',jb w1 W'→SlA W' 4 RWy b1 d1 (p.R.map (zao p))):=fun W' hb=>h1.below keepsC_wy.keeps hb;have HV2:Hid (∀W',jb w1 W'→SlA W' 1 RJl b2 d2 (p.R.map (zbk p))):=fun W' hb=>h2.below keepsC_jl.keeps hb;have hl1:(p.R.map (zao p)).length=p.R.length:=List.length_map _;have hl2:(p.R.map (zbk p)).length=p.R.length:=List.length_map _;rw[hl1,hl2];obtain⟨y0,y1,y2,y3,y4,y5,ly⟩:=HY _ HB1;clear hM hWM h1 h2 hl1 hl2;go_wp2_with fail;go_loopg [19] p.R.length (fun g j wr=> ∃k:Nat,k≤p.R.length∧g=p.R.length-k∧j= .int .i64 k∧jb w1 wr∧zf2 p k)
  case atStart=>exact⟨0,by omega,by omega,rfl,Below.refl _ _,fun i hi h=>absurd h (by omega)⟩
  case round=>
   obtain⟨k,hk,rfl,rfl,hb,hA⟩:=hrel;obtain⟨wo,rfl⟩: ∃wo:World,wo=wr:=⟨_,rfl⟩;have HB:=hI hb;have HA:=hI hA;have HBW:=jh HB1 hb;have HB0:=jh K1 hb;clear hb hA y0 y1 y2 y3 y4 y5 ly;by_cases hlt:k<p.R.length
   ·obtain⟨b,off,vp,vo,vf,rfl,r0,r1,r2,r3,r4,r5,r6,hrm⟩:=(HR _ HB0).rt hlt;obtain⟨ap,cp,rfl,-⟩:=hrm.A.at_;obtain⟨ao,co,rfl,-⟩:=hrm.O.at_;obtain⟨af,cf,rfl,-⟩:=hrm.fl;have HRM:=hI hrm;have e0:(0:Int)≤(k:Int):=(by omega);have e1:(k:Int)<(p.R.length:Int):=(by omega);have lb:=World.block_lt_of_cell? _ _ r0;clear hrm;go_upto_region 7 with fail;generalize hW6:wo.alloc _=W6;have hb6:jb wo W6:=(by rw[←hW6];exact jal);have HB6:=jh HB hb6;have HB06:=jh HB0 hb6;have HBW6:=jh HBW hb6;have q0:=cell_regrown (show jc W6 wo.heap.size 0 p.R[k].id by rw[←hW6];simp);have q1:=cell_regrown (show jc W6 wo.heap.size 1 p.R[k].E by rw[←hW6];simp);have q2:=cell_regrown (show jc W6 wo.heap.size 2 p.R[k].X by rw[←hW6];simp);have q3:=cell_regrown (show jc W6 wo.heap.size 3 (js ap p.R[k].A.length cp) by rw[←hW6];simp);have q4:=cell_regrown (show jc W6 wo.heap.size 4 (js ao p.R[k].O.length co) by rw[←hW6];simp);have q5:=cell_regrown (show jc W6 wo.heap.size 5 (js af p.R[k].fl.length cf) by rw[←hW6];simp);have q6:=cell_regrown (show jc W6 wo.heap.size 6 p.R[k].T by rw[←hW6];simp);obtain⟨y0,y1,y2,y3,y4,y5,ly⟩:=HY _ HBW6;have z0:=cell_regrown y0;have z1:=cell_regrown y1;have z2:=cell_regrown y2;have z3:=cell_regrown y3;have z4:=cell_regrown y4;have z5:=cell_regrown y5;obtain⟨bb1,of1,wp,wo',wa,rfl,x0,x1,x2,x3,i1,i2,i3⟩:=(HV1 _ HB6).wy (i:=k) (by rw[List.length_map];exact hlt);obtain⟨bb2,of2,wj,rfl,xj,ij⟩:=(HV2 _ HB6).jl (i:=k) (by rw[List.length_map];exact hlt);rw[List.getElem_map]at i3 ij;obtain⟨aa,ca,rfl,i3⟩:=i3;obtain⟨aj,cj,rfl,ij⟩:=ij;have u2:=cell_regrown x2;have uj:=cell_regrown xj;have HRM6:=hI (HRM.below hb6);have hMk:=HM.2.2 k hlt hlt;have hPf:zdu (zao p p.R[k]).asks:=zme HM.1.2.2.2.2.2.1 HM.2.1.1.1.1 hMk.2.2
    have hal:(zao p p.R[k]).asks.length≤1000:=by
     have h1:=zik (zcg p p.R[k]) p.R[k].fl p.R[k].fl.length;have h2:=(zgf p p.R[k] (zaa p.R[k]).length).1;have h3:(zaa p.R[k]).length=p.R[k].A.length+p.R[k].O.length:=List.length_append;have h4:=hMk.1.2.2.2.2.1;have h5:=hMk.1.2.2.2.2.2.1;have h6:=hMk.1.2.2.2.2.2.2.1;show(zbg (zcg p p.R[k]) p.R[k].fl p.R[k].fl.length).asks.length≤1000;unfold zcg at h1 ⊢;omega
    have hol:(zbk p p.R[k]).length≤1000:=by
     have h2:=(zgf p p.R[k] (zaa p.R[k]).length).2;have h3:(zaa p.R[k]).length=p.R[k].A.length+p.R[k].O.length:=List.length_append;have h4:=hMk.1.2.2.2.2.1;have h5:=hMk.1.2.2.2.2.2.1;unfold zbk zcg;omega
    have hpl:p.R[k].A.length≤(zbk p p.R[k]).length:=zrg p p.R[k] (HWM k hlt hlt);have hp6:=hMk.1.2.2.2.2.1;have cO:Hid (∀d os,Calls Tryz.prog 121 #[js aa (zao p p.R[k]).asks.length ca] (grow (redrawn W6 d) os) fun e w''=>e= .returned (.bool (decide (zdv (zao p p.R[k]).asks)))∧ ∃pp:Regrown,w''=grow (redrawn W6 pp.d) pp.os):=fun d os=>Calls.regrown_of (zs1 aa ca _ _ (i3.below zil (below_regrown W6 d os)) hal hPf);have cC:Hid (∀d os,Calls Tryz.prog 122 #[.agg #[p.ver,p.par,js a1 p.S.length c1,js a2 p.P.length c2,js a3 p.G.length c3,jq b off p.R.length c4],.agg #[p.R[k].id,p.R[k].E,p.R[k].X,js ap p.R[k].A.length cp,js ao p.R[k].O.length co,js af p.R[k].fl.length cf,p.R[k].T],js aj (zbk p p.R[k]).length cj] (grow (redrawn W6 d) os) fun e w''=>e= .returned (.bool (decide (zea p p.R[k] (zbk p p.R[k]))))∧ ∃pp:Regrown,w''=grow (redrawn W6 pp.d) pp.os):=fun d os=>Calls.regrown_of (HCLR k hlt _ _ _ aj cj _ _ (HB06.trans ((below_regrown W6 d os).mono HB06.size)) (HRM6.below (below_regrown W6 d os)) (ij.below zcn (below_regrown W6 d os)) hol hp6 hpl);have HST:Hid (zgh p p.R[k]↔zdv (zao p p.R[k]).asks∧zea p p.R[k] (zbk p p.R[k])):=Iff.rfl;have HSS:Hid (zgh p p.R[k]→zf2 p (k+1)):=zro hlt HA;have HNS:Hid (¬zgh p p.R[k]→E=100):=fun h=>HE 100 (fun h'=>absurd (h'.2.2 k hlt hlt) h) (fun _=>rfl);clear hW6 hb6 r0 r1 r2 r3 r4 r5 r6 lb x0 x1 x2 x3 xj i1 i2 i3 ij y0 y1 y2 y3 y4 y5 ly hMk hPf hal hol hpl hp6;by_cases hOn:zdv (zao p p.R[k]).asks
    ·have hd1:=decide_eq_true hOn;rw[hd1]at cO;by_cases hCl:zea p p.R[k] (zbk p p.R[k])
     ·have hd2:=decide_eq_true hCl;rw[hd2]at cC;have HS2:=hI (HSS (HST.2 ⟨hOn,hCl⟩));clear hd1 hd2 hOn hCl;refine wp_region_quiet_below (by kernel_rfl) (by kernel_rfl) ?_
      repeat (go_big_quiet_step (first | (with_reducible exact cO.out _ _) | (with_reducible exact cC.out _ _)))
      refine wpQuiet_nil ?_;rintro _ ⟨⟨dq,osq⟩,rfl⟩;go_wp2_with fail;go_roundg (p.R.length-(k+1))
      case measure=>go_light;omega
      case rel=>go_light;exact⟨k+1,by omega,by omega,by go_num,HB6.trans ((below_regrown W6 dq osq).mono HB6.size),HS2⟩
     ·have hd2:=decide_eq_false hCl;rw[hd2]at cC;have HS2:=hI (HNS (fun h=>hCl (HST.1 h).2));clear hd1 hd2 hOn hCl;refine wp_region_quiet_below (by kernel_rfl) (by kernel_rfl) ?_
      repeat (go_big_quiet_step (first | (with_reducible exact cO.out _ _) | (with_reducible exact cC.out _ _)))
      refine wpQuiet_nil ?_;rintro _ ⟨⟨dq,osq⟩,rfl⟩;go_wp2_with fail;go_ret;exact⟨za0 HS2.symm,HB06.trans ((below_regrown W6 dq osq).mono HB06.size)⟩
    ·have hd1:=decide_eq_false hOn;rw[hd1]at cO;have HS2:=hI (HNS (fun h=>hOn (HST.1 h).1));clear hd1 hOn;refine wp_region_quiet_below (by kernel_rfl) (by kernel_rfl) ?_
     repeat (go_big_quiet_step (first | (with_reducible exact cO.out _ _) | (with_reducible exact cC.out _ _)))
     refine wpQuiet_nil ?_;rintro _ ⟨⟨dq,osq⟩,rfl⟩;go_wp2_with fail;go_ret;exact⟨za0 HS2.symm,HB06.trans ((below_regrown W6 dq osq).mono HB06.size)⟩
   ·obtain rfl:k=p.R.length:=(by omega);have HE0:Hid (E=0):=HE 0 (fun _=>rfl) (fun h'=>absurd (HU.2 ⟨HM,HWM,HA⟩) h');go_wp2_with fail;go_ret;exact⟨za0 HE0.symm,HB0⟩
def tkC (x:Tk):List Value:=[.int .i64 x.id,.int .u8 x.is]
def swC (x:Sw):List Value:=[.int .i64 x.id,.int .i64 x.lie,.int .i64 x.call]
def lkC (x:Lk):List Value:=[.int .i64 x.id,.int .u8 x.ph,.int .i64 x.gone,.int .i64 x.left]
theorem ziw:(Tryz.prog.info? 106).map (fun i=>(i.zero,i.size,i.bytes))=some (some (.agg #[.int .i64 0,.int .u8 0]),2,16):=by kernel_rfl
theorem zix:(Tryz.prog.info? 108).map (fun i=>(i.zero,i.size,i.bytes))=some (some (.agg #[.int .i64 0,.int .i64 0,.int .i64 0]),3,24):=by kernel_rfl
theorem ziy:(Tryz.prog.info? 99).map (fun i=>(i.zero,i.size,i.bytes))=some (some (.agg #[.int .i64 0,.int .u8 0,.int .i64 0,.int .i64 0]),4,32):=by kernel_rfl
theorem zks (x:Tk): ∀u∈tkC x,u.oneCell'=true:=by
 intro u hu;simp only[tkC,List.mem_cons,List.not_mem_nil,or_false]at hu;rcases hu with rfl | rfl<;>rfl
theorem zkt (x:Sw): ∀u∈swC x,u.oneCell'=true:=by
 intro u hu;simp only[swC,List.mem_cons,List.not_mem_nil,or_false]at hu;rcases hu with rfl | rfl | rfl<;>rfl
theorem zku (x:Lk): ∀u∈lkC x,u.oneCell'=true:=by
 intro u hu;simp only[lkC,List.mem_cons,List.not_mem_nil,or_false]at hu;rcases hu with rfl | rfl | rfl | rfl<;>rfl
structure StOwn (W:World) (N:Nat) (t s l:Value) (x:St):Prop where
 tks:W.ownsRow N 106 2 t x.tks.length (x.tks.flatMap tkC)
 sws:W.ownsRow N 108 3 s x.sws.length (x.sws.flatMap swC)
 lks:W.ownsRow N 99 4 l x.lks.length (x.lks.flatMap lkC)
section
variable {W W':World}{N:Nat}{t s l:Value}{x:St}
theorem StOwn.stM (h:StOwn W N t s l x):StM W t s l x:=
 ⟨zeo (f:=tkC) h.tks (fun _ _=>rfl) (fun _ _=>rfl),zeo (f:=swC) h.sws (fun _ _=>rfl) (fun _ _=>rfl),zeo (f:=lkC) h.lks (fun _ _=>rfl) (fun _ _=>rfl)⟩
theorem StOwn.below (h:StOwn W N t s l x) (hb:jb W W'):StOwn W' N t s l x:=⟨zau h.tks hb,zau h.sws hb,zau h.lks hb⟩
theorem StOwn.setCell (h:StOwn W N t s l x){a:Addr}(ha:a.block<N) (v:Value):StOwn (W.setCell a v) N t s l x:=⟨zag h.tks ha v,zag h.sws ha v,zag h.lks ha v⟩
theorem StOwn.base (h:StOwn W N t s l x){N':Nat}(hn:N'≤N):StOwn W N' t s l x:=⟨zav h.tks hn,zav h.sws hn,zav h.lks hn⟩
theorem StOwn.nil (W:World) (N:Nat):StOwn W N (.slice none 0 0) (.slice none 0 0) (.slice none 0 0) ⟨[],[],[]⟩:=⟨World.ownsRow_nil _ _ _ _,World.ownsRow_nil _ _ _ _,World.ownsRow_nil _ _ _ _⟩
theorem StOwn.tk (h:StOwn W N t s l x) (y:Tk){t':Value}(ho:W'.ownsRow N 106 2 t' (x.tks.length+1) (x.tks.flatMap tkC++tkC y)) (hg:W.grownBy W' t.ownBlock):StOwn W' N t' s l ⟨x.tks++[y],x.sws,x.lks⟩:=
 ⟨by rw[List.length_append,List.flatMap_append];simpa using ho,h.sws.kept hg (zdx h.sws h.tks (by decide)),h.lks.kept hg (zdx h.lks h.tks (by decide))⟩
theorem StOwn.sw (h:StOwn W N t s l x) (y:Sw){s':Value}(ho:W'.ownsRow N 108 3 s' (x.sws.length+1) (x.sws.flatMap swC++swC y)) (hg:W.grownBy W' s.ownBlock):StOwn W' N t s' l ⟨x.tks,x.sws++[y],x.lks⟩:=
 ⟨h.tks.kept hg (zdx h.tks h.sws (by decide)),by rw[List.length_append,List.flatMap_append];simpa using ho,h.lks.kept hg (zdx h.lks h.sws (by decide))⟩
theorem StOwn.lk (h:StOwn W N t s l x) (y:Lk){l':Value}(ho:W'.ownsRow N 99 4 l' (x.lks.length+1) (x.lks.flatMap lkC++lkC y)) (hg:W.grownBy W' l.ownBlock):StOwn W' N t s l' ⟨x.tks,x.sws,x.lks++[y]⟩:=
 ⟨h.tks.kept hg (zdx h.tks h.lks (by decide)),h.sws.kept hg (zdx h.sws h.lks (by decide)),by rw[List.length_append,List.flatMap_append];simpa using ho⟩
end
def zaf (p:Pl):St:=⟨p.S.map fun x=>⟨x.id,2⟩,p.P.map fun x=>⟨x.id,0,0⟩,p.R.map fun x=>⟨x.id,0,0,0⟩⟩
def zbl (p:Pl) (i j k:Nat):St:=⟨(p.S.take i).map fun x=>⟨x.id,2⟩,(p.P.take j).map fun x=>⟨x.id,0,0⟩,(p.R.take k).map fun x=>⟨x.id,0,0,0⟩⟩
theorem zt0 (p:Pl):zbl p 0 0 0=⟨[],[],[]⟩:=rfl
theorem zt1 (p:Pl):zbl p p.S.length p.P.length p.R.length=zaf p:=by unfold zbl zaf;rw[List.take_length,List.take_length,List.take_length]
theorem zt2 (p:Pl){i:Nat}(j k:Nat) (h:i<p.S.length):zbl p (i+1) j k=⟨(zbl p i j k).tks++[⟨p.S[i].id,2⟩],(zbl p i j k).sws,(zbl p i j k).lks⟩:=by
 unfold zbl;rw[List.take_succ_eq_append_getElem h,List.map_append];rfl
theorem zt3 (p:Pl){j:Nat}(i k:Nat) (h:j<p.P.length):zbl p i (j+1) k=⟨(zbl p i j k).tks,(zbl p i j k).sws++[⟨p.P[j].id,0,0⟩],(zbl p i j k).lks⟩:=by
 unfold zbl;rw[List.take_succ_eq_append_getElem h,List.map_append];rfl
theorem zt4 (p:Pl){k:Nat}(i j:Nat) (h:k<p.R.length):zbl p i j (k+1)=⟨(zbl p i j k).tks,(zbl p i j k).sws,(zbl p i j k).lks++[⟨p.R[k].id,0,0,0⟩]⟩:=by
 unfold zbl;rw[List.take_succ_eq_append_getElem h,List.map_append];rfl
structure AtM (B:World) (N bp g:Nat) (pc:Array Value) (t s l:Value) (x:St) (W:World):Prop where
 bel:jb B W
 pl:jk W bp pc 28
 blk:jk W g #[t,s,l] 33
 own:StOwn W N t s l x
section
variable {B W W':World}{N bp g:Nat}{pc:Array Value}{t s l:Value}{x:St}
theorem AtM.below (h:AtM B N bp g pc t s l x W) (hb:jb W W'):AtM B N bp g pc t s l x W':=
 ⟨jt h.bel hb,(jm hb h.pl),(jm hb h.blk),h.own.below hb⟩
theorem AtM.grow (h:AtM B N bp g pc t s l x W) (hB:B.heap.size≤g) (hbp:bp<g) (hg:g<N){e sz n:Nat}{v:Value}{xs:List Value}(hv:W.ownsRow N e sz v n xs) (hgr:W.grownBy W' v.ownBlock){o:Nat}{u t' s' l':Value}{x':St}(hc:(#[t,s,l]:Array Value).setIfInBounds o u=#[t',s',l']) (ho:StOwn W' N t' s' l' x'):AtM B N bp g pc t' s' l' x' (W'.setCell ⟨g,o,none⟩ u):=by
 have nb: ∀k,k<N→some k≠v.ownBlock:=fun k hk e=>by
  obtain⟨c,_,hb⟩:=zb1 hv e.symm;omega
 have hb:jb B W':=h.bel.trans (zcw hv (by omega) h.bel.size hgr);have hbl:jk W' g #[t,s,l] 33:=(hgr.block _ (zad h.blk) (nb g hg)).trans h.blk;refine⟨hb.setCell hB _,(Below.heap_setCell _ _ _ bp (by show bp≠g;omega)).trans ((hgr.block _ (zad h.pl) (nb bp (by omega))).trans h.pl),?_,ho.setCell hg u⟩;rw[←hc];simp[World.setCell,Array.getElem?_modify,hbl]
end
def zm7 (w:World) (p:Pl) (e:Ending) (w':World):Prop:=
 jb w w'∧((¬zaj p∧e= .returned (.tuple #[.agg #[.slice none 0 0,.slice none 0 0,.slice none 0 0],.int .i64 100]))∨
  (zaj p∧ ∃t s l,e= .returned (.tuple #[.agg #[t,s,l],.int .i64 0])∧StOwn w' w.heap.size t s l (zaf p)))
theorem zt5 (p:Pl) (s q gg rr:Value) (w:World) (hp:PlM w s q gg rr p) (hf:p.Fit):Calls Tryz.prog 59 #[plV p s q gg rr] w (zm7 w p):=by
 have HCK:Hid (∀w',jb w w'→Calls Tryz.prog 58 #[plV p s q gg rr] w' (zdz w' (if zaj p then 0 else 100))):=fun w' hb=>ziv p s q gg rr w' (hp.below hb) hf;obtain⟨a1,c1,rfl,k1⟩:=hp.S;obtain⟨a2,c2,rfl,k2⟩:=hp.P;obtain⟨a3,c3,rfl,-⟩:=hp.G;obtain⟨a4,c4,rfl,k4⟩:=hp.R;have HK1:Hid (∀w',jb w w'→SlA w' 3 zas a1 c1 p.S):=fun w' hb=>k1.below zbo hb;have HK2:Hid (∀w',jb w w'→SlA w' 2 RPt a2 c2 p.P):=fun w' hb=>k2.below zct hb;have HK4:Hid (∀w',jb w w'→SlA w' 7 RRt a4 c4 p.R):=fun w' hb=>k4.below zcv hb;have l1:=hf.S;have l2:=hf.P;have l4:=hf.R;clear hp hf k1 k2 k4;unfold plV at *;go_enter Tryz.func59,Tryz.ntmps59;go_upto_region 1 with fail;generalize hW0:World.alloc _ _=W0;have hz0:W0.heap.size=w.heap.size+1+1:=by rw[←hW0];simp
 have hb0:jb w W0:=by rw[←hW0];exact jal.alloc (by simp) _
 have hM0:AtM w (w.heap.size+1+1) w.heap.size (w.heap.size+1) #[p.ver,p.par,js a1 p.S.length c1,js a2 p.P.length c2,js a3 p.G.length c3,js a4 p.R.length c4] (.slice none 0 0) (.slice none 0 0) (.slice none 0 0) (zbl p 0 0 0) W0:=
  ⟨hb0,by rw[←hW0];exact(heap_alloc_old _ _ (by simp)).trans (heap_alloc_new _ _),by rw[←hW0];exact heap_alloc2_new _ _ _,by rw[zt0];exact StOwn.nil _ _⟩
 have HM0:=hI hM0;obtain⟨pp0,pp1,pp2,pp3,pp4,pp5⟩:=zan hM0.pl;have HC:=hI (HCK W0 hb0);clear hW0 hb0 hM0 HCK hz0;go_wp2_with fail;refine HC.mono ?_;rintro e w1 ⟨rfl,hb1⟩;have HM1:=hI (HM0.below hb1);clear hb1 HC HM0 pp0 pp1 pp2 pp3 pp4 pp5;by_cases hS:zaj p
 ·rw[if_pos hS];have HS:=hI hS;clear hS;have y2:jc w1 w.heap.size 2 (js a1 p.S.length c1):=jr HM1.pl;go_wp2_with fail;go_loopg [17] p.S.length (fun g j wr=> ∃(k:Nat) (t0:Value),k≤p.S.length∧g=p.S.length-k∧j= .int .i64 k∧AtM w (w.heap.size+1+1) w.heap.size (w.heap.size+1) #[p.ver,p.par,js a1 p.S.length c1,js a2 p.P.length c2,js a3 p.G.length c3,js a4 p.R.length c4] t0 (.slice none 0 0) (.slice none 0 0) (zbl p k 0 0) wr)
  case atStart=>exact⟨0,_,by omega,by omega,rfl,HM1⟩
  case round=>
   obtain⟨k,t0,hk,rfl,rfl,hM⟩:=hrel;obtain⟨wo0,rfl⟩: ∃wo0:World,wo0=wr:=⟨_,rfl⟩;have HM:=hI hM;clear hM y2 HM1;by_cases hlt:k<p.S.length
   ·obtain⟨b,off,a',c',rfl,r0,r1,r2,-⟩:=(HK1 _ HM.bel).sec hlt;have c0:(0:Int)≤(k:Int):=(by omega);have c1:(k:Int)<(p.S.length:Int):=(by omega);obtain⟨b9,d9,rfl⟩:=zeq HM.own.tks;have HL:Hid ((zbl p k 0 0).tks.length=k):=(by show _=_;simp[zbl];omega);have HX:=hI (zt2 p 0 0 hlt);have HM2:=hI (HM.below ((Below.refl wo0.heap.size wo0).alloc (Nat.le_refl _) (.cells #[p.S[k].id,p.S[k].pt,js a' p.S[k].ends.length c'] 80)));generalize zbl p k 0 0=X at *;go_upto_region 6 with fail;generalize hW6:wo0.alloc _=W6 at *;have q0:jc W6 wo0.heap.size 0 p.S[k].id:=(by rw[←hW6];simp);have z0:jc W6 (w.heap.size+1) 0 (js b9 X.tks.length d9):=jr HM2.blk;have hn:X.tks.length≤1000:=(by rw[HL.out];omega);have lgW:w.heap.size+1<W6.heap.size:=zad HM2.blk;have hbase:w.heap.size+1+1≤W6.heap.size:=lgW;clear hW6 r0 r1 r2;go_wp2_with (at_builtin;refine zey rfl _ _ 29 106 106 _ 2 16 rfl Tryz.underlying29 ziw rfl (by decide) (by decide) (w.heap.size+1+1) (js b9 X.tks.length d9) X.tks.length _ rfl HM2.own.tks hn hbase [.int .i64 p.S[k].id,.int .u8 2] rfl rfl (zks ⟨p.S[k].id,2⟩) ?_;intro b8 c8 w8 hown8 hgr8;have HM3:=HM2.below ((Below.refl W6.heap.size W6).alloc (Nat.le_refl _) (.cells ([.int .i64 p.S[k].id,.int .u8 2]:List Value).toArray 106));have hM8:=HM3.grow (o:=0) (u:= .slice (some ⟨b8,0,none⟩) (X.tks.length+1) c8) (by omega) (by omega) (by omega) HM3.own.tks hgr8 rfl (HM3.own.tk ⟨p.S[k].id,2⟩ hown8 hgr8);have hb8:jk w8 (w.heap.size+1) #[js b9 X.tks.length d9,.slice none 0 0,.slice none 0 0] 33:=(hgr8.block _ (zad HM3.blk) (fun e=>by {obtain⟨c,_,hb⟩:=zb1 HM3.own.tks e.symm;omega})).trans HM3.blk;have z8:jc w8 (w.heap.size+1) 0 (js b9 X.tks.length d9):=jr hb8;have f8:w8.frozen? ⟨w.heap.size+1,0,none⟩=false:=by {simp[World.frozen?,hb8]});rw[←HX.out]at hM8;go_roundg (p.S.length-(k+1))
    case measure=>go_light;omega
    case rel=>go_light;exact⟨k+1,_,by omega,by omega,by go_num,hM8⟩
   ·obtain rfl:k=p.S.length:=(by omega);have HMN0:=HM;clear HM hlt;have y3:jc wo0 w.heap.size 3 (js a2 p.P.length c2):=jr HMN0.pl;go_wp2_with fail;go_loopg [33] p.P.length (fun g j wr=> ∃(k:Nat) (t1:Value),k≤p.P.length∧g=p.P.length-k∧j= .int .i64 k∧AtM w (w.heap.size+1+1) w.heap.size (w.heap.size+1) #[p.ver,p.par,js a1 p.S.length c1,js a2 p.P.length c2,js a3 p.G.length c3,js a4 p.R.length c4] t0 t1 (.slice none 0 0) (zbl p p.S.length k 0) wr)
    case atStart=>exact⟨0,_,by omega,by omega,rfl,HMN0⟩
    case round=>
     obtain⟨k,t1,hk,rfl,rfl,hM⟩:=hrel;obtain⟨wo1,rfl⟩: ∃wo1:World,wo1=wr:=⟨_,rfl⟩;have HM:=hI hM;clear hM y3 HMN0;by_cases hlt:k<p.P.length
     ·obtain⟨b,off,rfl,r0,r1⟩:=(HK2 _ HM.bel).pt hlt;have c0:(0:Int)≤(k:Int):=(by omega);have c1:(k:Int)<(p.P.length:Int):=(by omega);obtain⟨b9,d9,rfl⟩:=zeq HM.own.sws;have HL:Hid ((zbl p p.S.length k 0).sws.length=k):=(by show _=_;simp[zbl];omega);have HX:=hI (zt3 p p.S.length 0 hlt);have HM2:=hI (HM.below ((Below.refl wo1.heap.size wo1).alloc (Nat.le_refl _) (.cells #[p.P[k].id,p.P[k].sec] 143)));generalize zbl p p.S.length k 0=X at *;go_upto_region 11 with fail;generalize hW6:wo1.alloc _=W6 at *;have q0:jc W6 wo1.heap.size 0 p.P[k].id:=(by rw[←hW6];simp);have z0:jc W6 (w.heap.size+1) 1 (js b9 X.sws.length d9):=jr HM2.blk;have hn:X.sws.length≤1000:=(by rw[HL.out];omega);have lgW:w.heap.size+1<W6.heap.size:=zad HM2.blk;have hbase:w.heap.size+1+1≤W6.heap.size:=lgW;clear hW6 r0 r1;go_wp2_with (at_builtin;refine zey rfl _ _ 30 108 108 _ 3 24 rfl Tryz.underlying30 zix rfl (by decide) (by decide) (w.heap.size+1+1) (js b9 X.sws.length d9) X.sws.length _ rfl HM2.own.sws hn hbase [.int .i64 p.P[k].id,.int .i64 0,.int .i64 0] rfl rfl (zkt ⟨p.P[k].id,0,0⟩) ?_;intro b8 c8 w8 hown8 hgr8;have HM3:=HM2.below ((Below.refl W6.heap.size W6).alloc (Nat.le_refl _) (.cells ([.int .i64 p.P[k].id,.int .i64 0,.int .i64 0]:List Value).toArray 108));have hM8:=HM3.grow (o:=1) (u:= .slice (some ⟨b8,0,none⟩) (X.sws.length+1) c8) (by omega) (by omega) (by omega) HM3.own.sws hgr8 rfl (HM3.own.sw ⟨p.P[k].id,0,0⟩ hown8 hgr8);have hb8:jk w8 (w.heap.size+1) #[t0,js b9 X.sws.length d9,.slice none 0 0] 33:=(hgr8.block _ (zad HM3.blk) (fun e=>by {obtain⟨c,_,hb⟩:=zb1 HM3.own.sws e.symm;omega})).trans HM3.blk;have z8:jc w8 (w.heap.size+1) 1 (js b9 X.sws.length d9):=jr hb8;have f8:w8.frozen? ⟨w.heap.size+1,1,none⟩=false:=by {simp[World.frozen?,hb8]});rw[←HX.out]at hM8;go_roundg (p.P.length-(k+1))
      case measure=>go_light;omega
      case rel=>go_light;exact⟨k+1,_,by omega,by omega,by go_num,hM8⟩
     ·obtain rfl:k=p.P.length:=(by omega);have HMN1:=HM;clear HM hlt;have y5:jc wo1 w.heap.size 5 (js a4 p.R.length c4):=jr HMN1.pl;go_wp2_with fail;go_loopg [49] p.R.length (fun g j wr=> ∃(k:Nat) (t2:Value),k≤p.R.length∧g=p.R.length-k∧j= .int .i64 k∧AtM w (w.heap.size+1+1) w.heap.size (w.heap.size+1) #[p.ver,p.par,js a1 p.S.length c1,js a2 p.P.length c2,js a3 p.G.length c3,js a4 p.R.length c4] t0 t1 t2 (zbl p p.S.length p.P.length k) wr)
      case atStart=>exact⟨0,_,by omega,by omega,rfl,HMN1⟩
      case round=>
       obtain⟨k,t2,hk,rfl,rfl,hM⟩:=hrel;obtain⟨wo2,rfl⟩: ∃wo2:World,wo2=wr:=⟨_,rfl⟩;have HM:=hI hM;clear hM y5 HMN1;by_cases hlt:k<p.R.length
       ·obtain⟨b,off,vp,vo,vf,rfl,r0,r1,r2,r3,r4,r5,r6,-⟩:=(HK4 _ HM.bel).rt hlt;clear r0 r1 r2 r3 r4 r5 r6;obtain⟨b8',off8',vp,vo,vf,e8,r0,r1,r2,r3,r4,r5,r6,hrm⟩:=(HK4 _ HM.bel).rt hlt;cases e8;obtain⟨ap,cp,rfl,-⟩:=hrm.A.at_;obtain⟨ao,co,rfl,-⟩:=hrm.O.at_;obtain⟨af,cf,rfl,-⟩:=hrm.fl;clear hrm;have c0:(0:Int)≤(k:Int):=(by omega);have c1:(k:Int)<(p.R.length:Int):=(by omega);obtain⟨b9,d9,rfl⟩:=zeq HM.own.lks;have HL:Hid ((zbl p p.S.length p.P.length k).lks.length=k):=(by show _=_;simp[zbl];omega);have HX:=hI (zt4 p p.S.length p.P.length hlt);have HM2:=hI (HM.below ((Below.refl wo2.heap.size wo2).alloc (Nat.le_refl _) (.cells #[p.R[k].id,p.R[k].E,p.R[k].X,js ap p.R[k].A.length cp,js ao p.R[k].O.length co,js af p.R[k].fl.length cf,p.R[k].T] 102)));generalize zbl p p.S.length p.P.length k=X at *;go_upto_region 16 with fail;generalize hW6:wo2.alloc _=W6 at *;have q0:jc W6 wo2.heap.size 0 p.R[k].id:=(by rw[←hW6];simp);have z0:jc W6 (w.heap.size+1) 2 (js b9 X.lks.length d9):=jr HM2.blk;have hn:X.lks.length≤1000:=(by rw[HL.out];omega);have lgW:w.heap.size+1<W6.heap.size:=zad HM2.blk;have hbase:w.heap.size+1+1≤W6.heap.size:=lgW;clear hW6 r0 r1 r2 r3 r4 r5 r6;go_wp2_with (at_builtin;refine zey rfl _ _ 31 99 99 _ 4 32 rfl Tryz.underlying31 ziy rfl (by decide) (by decide) (w.heap.size+1+1) (js b9 X.lks.length d9) X.lks.length _ rfl HM2.own.lks hn hbase [.int .i64 p.R[k].id,.int .u8 0,.int .i64 0,.int .i64 0] rfl rfl (zku ⟨p.R[k].id,0,0,0⟩) ?_;intro b8 c8 w8 hown8 hgr8;have HM3:=HM2.below ((Below.refl W6.heap.size W6).alloc (Nat.le_refl _) (.cells ([.int .i64 p.R[k].id,.int .u8 0,.int .i64 0,.int .i64 0]:List Value).toArray 99));have hM8:=HM3.grow (o:=2) (u:= .slice (some ⟨b8,0,none⟩) (X.lks.length+1) c8) (by omega) (by omega) (by omega) HM3.own.lks hgr8 rfl (HM3.own.lk ⟨p.R[k].id,0,0,0⟩ hown8 hgr8);have hb8:jk w8 (w.heap.size+1) #[t0,t1,js b9 X.lks.length d9] 33:=(hgr8.block _ (zad HM3.blk) (fun e=>by {obtain⟨c,_,hb⟩:=zb1 HM3.own.lks e.symm;omega})).trans HM3.blk;have z8:jc w8 (w.heap.size+1) 2 (js b9 X.lks.length d9):=jr hb8;have f8:w8.frozen? ⟨w.heap.size+1,2,none⟩=false:=by {simp[World.frozen?,hb8]});rw[←HX.out]at hM8;go_roundg (p.R.length-(k+1))
        case measure=>go_light;omega
        case rel=>go_light;exact⟨k+1,_,by omega,by omega,by go_num,hM8⟩
       ·obtain rfl:k=p.R.length:=(by omega);have hown:=HM.own;rw[zt1]at hown;obtain⟨g0,m0,rfl⟩:=zeq hown.tks;obtain⟨g1,m1,rfl⟩:=zeq hown.sws;obtain⟨g2,m2,rfl⟩:=zeq hown.lks;have z0:=(cell_of_row wo2 _ 0 _ _ _ HM.blk).trans rfl;have z1:=(cell_of_row wo2 _ 1 _ _ _ HM.blk).trans rfl;have z2:=(cell_of_row wo2 _ 2 _ _ _ HM.blk).trans rfl;go_wp2_with fail;exact bodyPost_ret (v:= .tuple #[.agg #[js g0 (zaf p).tks.length m0,js g1 (zaf p).sws.length m1,js g2 (zaf p).lks.length m2],.int .i64 0]) (by simp[results,Tryz.f59,go_sem,z0,z1,z2]) rfl ⟨HM.bel,.inr ⟨HS,_,_,_,rfl,hown.base (by omega)⟩⟩
 ·rw[if_neg hS];have HS:=hI hS;clear hS;obtain⟨z0,z1,z2⟩:=zap HM1.blk;go_wp2_with fail;exact bodyPost_ret (v:= .tuple #[.agg #[.slice none 0 0,.slice none 0 0,.slice none 0 0],.int .i64 100]) (by simp[results,Tryz.f59,go_sem,z0,z1,z2]) rfl ⟨HM1.bel,.inl ⟨HS,rfl⟩⟩
end Go.Proofs.YtbiehpjhhopjaaaGreat
