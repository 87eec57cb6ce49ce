/-
 A route in new memory,as the references make it,walked. (Written by wip/tools/gen_rwh.py.)
-/
import Derived.Test.YtbiehpjhhopjaaaGreatTRwE
import Derived.Test.YtbiehpjhhopjaaaGreatTTwinR
import Derived.Test.YtbiehpjhhopjaaaGreatTRwL
set_option linter.unusedVariables false
set_option linter.unusedSimpArgs false
set_option maxRecDepth 100000
set_option maxHeartbeats 16000000
namespace Go.Proofs.YtbiehpjhhopjaaaGreat
open Go.RowKit
theorem zw8 {w:World}{ops:Array Oper}{rest:List Oper}{o:Oper}{a:Act}{Q:Exit→Act→World→Prop}(hgd:o.guard=none) (s x:Operand)
  (ho:o.op= .call {callee:= .builtin .append,args:=#[s,x],argTypes:=#[100,100]}) (hs:a.eval s= .slice none 0 0)
  (a0:Option Addr) (cap:Nat) (l:List Fl) (hx:a.eval x= .slice a0 l.length cap) (hl:SlA w 2 RFl a0 cap l) (hn:l.length≤8796093022208)
  (h: ∀a' c' w',w'.ownsRow w.heap.size 207 2 (js a' l.length c') l.length (l.flatMap flC)→jb w w'→wpList Tryz.prog ops Q rest (a.put o.dst (js a' l.length c')) w'):wpList Tryz.prog ops Q (o::rest) a w:=by
 obtain⟨i0,hi,hz0,hz1,hz2⟩:=info_parts zoz;by_cases h0:l=[]
 ·subst h0
  have hrun:(Builtin.append_ #[100,100] o.type #[.slice none 0 0,js a0 0 cap]).run Tryz.prog w= .ok (.slice none 0 0) w:=by
   cases a0<;>simp[Builtin.append_,run_underlying Tryz.underlying100,sizeOf,typeInfo,hi,Builtin.lenOf,Builtin.firstCells,loadCells,loadCellsFrom]
  have hk:=h none 0 w (World.ownsRow_nil _ _ _ _) (Below.refl _ _);exact Go.Lib.wpList_append_run w hgd s x 100 100 ho _ _ hs hx _ _ hrun hk
 ·obtain⟨b,off,vs0,e,-⟩:=hl.at_ 0 (List.length_pos_iff.2 h0);cases e;refine wpList_append_own_at w hgd s x 100 ho w.heap.size 207 i0 (.agg #[.int .i64 0,.int .i64 0]) 2 16 Tryz.underlying100 hi hz0 hz1 hz2 rfl (by decide) (.slice none 0 0) 0 [] hs (World.ownsRow_nil _ _ _ _) ⟨b,off,none⟩ l.length cap (l.flatMap flC) hx (zcc _ 2 l (fun _ _=>rfl)) ?_ ?_ (by unfold maxLen;omega) (by omega) (Nat.le_refl _) ?_
  ·intro j u hj;rw[Addr.add_lit];exact zld (f:=flC) hl (fun _ _=>rfl) (fun _ _ h=>h) (by decide) j u hj
  ·intro u hu;obtain⟨y,-,hy⟩:=List.mem_flatMap.1 hu;exact zo0 y u hy
  ·intro v' w' h1 h2 _ _;rw[Nat.zero_add,List.nil_append]at h1;obtain⟨a',c',rfl⟩:=zb3 h1;exact h a' c' w' h1 (zcw (World.ownsRow_nil w w.heap.size 207 2) (Nat.le_refl _) (Nat.le_refl _) h2)
theorem zpj (r:Rt) (c5 c6 c7:Value) (w:World) (hr:RtM w c5 c6 c7 r) (hf:r.fit):
  Calls Tryz.prog 132 #[.agg #[r.id,r.E,r.X,c5,c6,c7,r.T]] w fun e w'=> ∃a1 c1 a2 c2 a3 c3,e= .returned (.agg #[r.id,r.E,r.X,js a1 r.A.length c1,js a2 r.O.length c2,js a3 r.fl.length c3,r.T])∧RtOwn w' w.heap.size (js a1 r.A.length c1) (js a2 r.O.length c2) (js a3 r.fl.length c3) r∧jb w w':=by
 have HP:Hid (∀W,jb w W→RtM W c5 c6 c7 r):=fun W hb=>hr.below hb;obtain⟨p1,pn,p3,rfl,ip⟩:=hr.A;obtain⟨o1,on,o3,rfl,io⟩:=hr.O;obtain rfl:=ip.len;obtain rfl:=io.len;obtain⟨f1,f3,rfl,-⟩:=hr.fl
 have HI1:Hid (∀W,jb w W→IL W p1 r.A.length r.A):=fun W hb=>by
  obtain⟨a,n,c,e,h⟩:=(HP W hb).A;cases e;exact h
 have HI2:Hid (∀W,jb w W→IL W o1 r.O.length r.O):=fun W hb=>by
  obtain⟨a,n,c,e,h⟩:=(HP W hb).O;cases e;exact h
 have HI3:Hid (∀W,jb w W→SlA W 2 RFl f1 f3 r.fl):=fun W hb=>by
  obtain⟨a,c,e,h⟩:=(HP W hb).fl;cases e;exact h
 have hf1:([]:List Int).length+r.A.length≤17592186044416:=by have:=hf.1;simp;omega
 have hf2:([]:List Int).length+r.O.length≤17592186044416:=by have:=hf.2.1;simp;omega
 have hf3:=hf.2.2;clear hr hf HP ip io;go_enter Tryz.func132,Tryz.ntmps132;go_upto_region 2 with fail;generalize hW0:World.alloc _ _=W0;have eA:(w.alloc (.cells #[r.id,r.E,r.X,js p1 r.A.length p3,js o1 r.O.length o3,js f1 r.fl.length f3,r.T] 102)).heap.size=w.heap.size+1:=by simp
 have eB:((w.alloc (.cells #[r.id,r.E,r.X,js p1 r.A.length p3,js o1 r.O.length o3,js f1 r.fl.length f3,r.T] 102)).alloc (.cells #[.int .i64 0,.int .i64 0,.int .i64 0,.slice none 0 0,.slice none 0 0,.slice none 0 0,.int .i64 0] 102)).heap.size=w.heap.size+1+1:=by simp
 have K0:Hid (jb w W0):=by show Below _ _ _;rw[←hW0];exact(jal.alloc (by simp) _).alloc (by simp<;>omega) _
 have hx0:jk W0 w.heap.size #[r.id,r.E,r.X,js p1 r.A.length p3,js o1 r.O.length o3,js f1 r.fl.length f3,r.T] 102:=by
  rw[←hW0];exact(heap_alloc_old _ _ (by simp<;>omega)).trans ((heap_alloc_old _ _ (by simp)).trans (heap_alloc_new _ _))
 have hz0:jk W0 (w.heap.size+1) #[.int .i64 0,.int .i64 0,.int .i64 0,.slice none 0 0,.slice none 0 0,.slice none 0 0,.int .i64 0] 102:=by
  rw[←hW0];exact(heap_alloc_old _ _ (by simp)).trans (heap_alloc2_new _ _ _)
 have ht0:jk W0 (w.heap.size+1+1) #[r.id,r.E,r.X,.slice none 0 0,.slice none 0 0,.slice none 0 0,r.T] 102:=by
  rw[←hW0,←eB];exact heap_alloc_new _ _
 have s0:W0.heap.size=w.heap.size+3:=by rw[←hW0];simp
 clear hW0 eA eB;have xx:jc W0 w.heap.size 3 (js p1 r.A.length p3):=jr hx0;have yy:jc W0 (w.heap.size+1+1) 3 (.slice none 0 0):=jr ht0;have lx:=block_lt_of_cell xx;have ly:=block_lt_of_cell yy;have HX0:=hI hx0;have HZ0:=hI hz0;have HT0:=hI ht0;have HY0:=hI ly;clear hx0 hz0 ht0;have hbs:W0.heap.size≤W0.heap.size:=Nat.le_refl _;go_upto_region 3 with(at_builtin;refine zgk rfl _ _ rfl W0.heap.size (.slice none 0 0) [] rfl (zfs _ _) p1 p3 r.A rfl (HI1 _ K0) hf1 hbs ?_;rw[List.nil_append];intro b1 c1 W1A hown hgr;have hbb:jb W0 W1A:=zcw (zfs W0 W0.heap.size) (Nat.le_refl _) (Nat.le_refl _) hgr;have zc:jc W1A (w.heap.size+1+1) 3 (.slice none 0 0):=zac hbb yy;have htA:=jm hbb HT0;have zf:W1A.frozen? ⟨w.heap.size+1+1,3,none⟩=false:=(by simp[World.frozen?,htA]);have zl:=block_lt_of_cell zc);generalize hWN:World.setCell _ _ _=W1
 have hx1:jk W1 w.heap.size #[r.id,r.E,r.X,js p1 r.A.length p3,js o1 r.O.length o3,js f1 r.fl.length f3,r.T] 102:=by
  have:=jm hbb HX0;rw[←hWN];simp[World.setCell,Array.getElem?_modify,this];intro h;omega
 have hz1:jk W1 (w.heap.size+1) #[.int .i64 0,.int .i64 0,.int .i64 0,.slice none 0 0,.slice none 0 0,.slice none 0 0,.int .i64 0] 102:=by
  have:=jm hbb HZ0;rw[←hWN];simp[World.setCell,Array.getElem?_modify,this]
 have ht1:jk W1 (w.heap.size+1+1) #[r.id,r.E,r.X,js b1 r.A.length c1,.slice none 0 0,.slice none 0 0,r.T] 102:=by
  rw[←hWN];simp[World.setCell,Array.getElem?_modify,htA]
 have K1:Hid (jb w W1):=by
  show Below _ _ _;rw[←hWN];exact(jo K0 hbb).setCell (by simp<;>omega) _
 have O1:Hid (IntOwn W1 W0.heap.size (js b1 r.A.length c1) r.A):=by
  show IntOwn _ _ _ _;rw[←hWN];exact zag hown HY0 _
 have HBW1:Hid (∀v l,IntOwn W0 (w.heap.size+1+1+1) v l→IntOwn W1 (w.heap.size+1+1+1) v l):=fun v l h=>by
  rw[←hWN];exact zag (zau h hbb) (by simp) _
 have s1:w.heap.size+3≤W1.heap.size:=by rw[←hWN];have:=hbb.size;simp;omega
 clear hWN hown hbb zc htA zf zl xx yy lx ly hbs HX0 HZ0 HT0 hgr;have xx:jc W1 w.heap.size 4 (js o1 r.O.length o3):=jr hx1;have yy:jc W1 (w.heap.size+1+1) 4 (.slice none 0 0):=jr ht1;have lx:=block_lt_of_cell xx;have ly:=block_lt_of_cell yy;have HX1:=hI hx1;have HZ1:=hI hz1;have HT1:=hI ht1;have HY1:=hI ly;clear hx1 hz1 ht1;have hbs:W1.heap.size≤W1.heap.size:=Nat.le_refl _;go_upto_region 4 with(at_builtin;refine zgk rfl _ _ rfl W1.heap.size (.slice none 0 0) [] rfl (zfs _ _) o1 o3 r.O rfl (HI2 _ K1) hf2 hbs ?_;rw[List.nil_append];intro b2 c2 W2A hown hgr;have hbb:jb W1 W2A:=zcw (zfs W1 W1.heap.size) (Nat.le_refl _) (Nat.le_refl _) hgr;have zc:jc W2A (w.heap.size+1+1) 4 (.slice none 0 0):=zac hbb yy;have htA:=jm hbb HT1;have zf:W2A.frozen? ⟨w.heap.size+1+1,4,none⟩=false:=(by simp[World.frozen?,htA]);have zl:=block_lt_of_cell zc);generalize hWN:World.setCell _ _ _=W2
 have hx2:jk W2 w.heap.size #[r.id,r.E,r.X,js p1 r.A.length p3,js o1 r.O.length o3,js f1 r.fl.length f3,r.T] 102:=by
  have:=jm hbb HX1;rw[←hWN];simp[World.setCell,Array.getElem?_modify,this];intro h;omega
 have hz2:jk W2 (w.heap.size+1) #[.int .i64 0,.int .i64 0,.int .i64 0,.slice none 0 0,.slice none 0 0,.slice none 0 0,.int .i64 0] 102:=by
  have:=jm hbb HZ1;rw[←hWN];simp[World.setCell,Array.getElem?_modify,this]
 have ht2:jk W2 (w.heap.size+1+1) #[r.id,r.E,r.X,js b1 r.A.length c1,js b2 r.O.length c2,.slice none 0 0,r.T] 102:=by
  rw[←hWN];simp[World.setCell,Array.getElem?_modify,htA]
 have K2:Hid (jb w W2):=by
  show Below _ _ _;rw[←hWN];exact(jo K1 hbb).setCell (by simp<;>omega) _
 have O2:Hid (IntOwn W2 W1.heap.size (js b2 r.O.length c2) r.O):=by
  show IntOwn _ _ _ _;rw[←hWN];exact zag hown HY1 _
 have HBW2:Hid (∀v l,IntOwn W1 (w.heap.size+1+1+1) v l→IntOwn W2 (w.heap.size+1+1+1) v l):=fun v l h=>by
  rw[←hWN];exact zag (zau h hbb) (by simp) _
 have s2:w.heap.size+3≤W2.heap.size:=by rw[←hWN];have:=hbb.size;simp;omega
 clear hWN hown hbb zc htA zf zl xx yy lx ly hbs HX1 HZ1 HT1 hgr;have xx:jc W2 w.heap.size 5 (js f1 r.fl.length f3):=jr hx2;have yy:jc W2 (w.heap.size+1+1) 5 (.slice none 0 0):=jr ht2;have lx:=block_lt_of_cell xx;have ly:=block_lt_of_cell yy;have HX2:=hI hx2;have HZ2:=hI hz2;have HT2:=hI ht2;have HY2:=hI ly;clear hx2 hz2 ht2;have hbs:W2.heap.size≤W2.heap.size:=Nat.le_refl _;go_upto_region 5 with(at_builtin;refine zw8 rfl _ _ rfl rfl f1 f3 r.fl rfl (HI3 _ K2) hf3 ?_;intro b3 c3 W3A hown hbb;have zc:jc W3A (w.heap.size+1+1) 5 (.slice none 0 0):=zac hbb yy;have htA:=jm hbb HT2;have zf:W3A.frozen? ⟨w.heap.size+1+1,5,none⟩=false:=(by simp[World.frozen?,htA]);have zl:=block_lt_of_cell zc);generalize hWN:World.setCell _ _ _=W3
 have hx3:jk W3 w.heap.size #[r.id,r.E,r.X,js p1 r.A.length p3,js o1 r.O.length o3,js f1 r.fl.length f3,r.T] 102:=by
  have:=jm hbb HX2;rw[←hWN];simp[World.setCell,Array.getElem?_modify,this];intro h;omega
 have hz3:jk W3 (w.heap.size+1) #[.int .i64 0,.int .i64 0,.int .i64 0,.slice none 0 0,.slice none 0 0,.slice none 0 0,.int .i64 0] 102:=by
  have:=jm hbb HZ2;rw[←hWN];simp[World.setCell,Array.getElem?_modify,this]
 have ht3:jk W3 (w.heap.size+1+1) #[r.id,r.E,r.X,js b1 r.A.length c1,js b2 r.O.length c2,js b3 r.fl.length c3,r.T] 102:=by
  rw[←hWN];simp[World.setCell,Array.getElem?_modify,htA]
 have K3:Hid (jb w W3):=by
  show Below _ _ _;rw[←hWN];exact(jo K2 hbb).setCell (by simp<;>omega) _
 have O3:Hid (W3.ownsRow W2.heap.size 207 2 (js b3 r.fl.length c3) r.fl.length (r.fl.flatMap flC)):=by
  show World.ownsRow _ _ _ _ _ _ _;rw[←hWN];exact zag hown HY2 _
 have HBW3:Hid (∀v l,IntOwn W2 (w.heap.size+1+1+1) v l→IntOwn W3 (w.heap.size+1+1+1) v l):=fun v l h=>by
  rw[←hWN];exact zag (zau h hbb) (by simp) _
 clear hWN hown hbb zc htA zf zl xx yy lx ly hbs HX2 HZ2 HT2 ;obtain⟨q0,q1,q2,q3,q4,q5,q6⟩:=zb7 (ht3);obtain⟨z0,z1,z2,z3,z4,z5,z6⟩:=zb7 (hz3);have ff: ∀o,W3.frozen? ⟨w.heap.size+1,o,none⟩=false:=fun o=>by simp[World.frozen?,hz3]
 have lr:=zad hz3
 have HO:Hid (RtOwn W3 (w.heap.size+1+1+1) (js b1 r.A.length c1) (js b2 r.O.length c2) (js b3 r.fl.length c3) r):=
  ⟨HBW3 _ _ (HBW2 _ _ (zav O1 (by omega))),HBW3 _ _ (zav O2 (by omega)),zav O3 (by omega)⟩
 clear hx3 hz3 ht3 O1 O2 O3 HBW1 HBW2 HBW3;go_wp2_with fail;generalize hWE:World.setCell _ _ _=WE;have e0:jc WE (w.heap.size+1) 0 r.id:=by rw[←hWE];simp[go_sem,lr,z0,z1,z2,z3,z4,z5,z6]
 have e1:jc WE (w.heap.size+1) 1 r.E:=by rw[←hWE];simp[go_sem,lr,z0,z1,z2,z3,z4,z5,z6]
 have e2:jc WE (w.heap.size+1) 2 r.X:=by rw[←hWE];simp[go_sem,lr,z0,z1,z2,z3,z4,z5,z6]
 have e3:jc WE (w.heap.size+1) 3 (js b1 r.A.length c1):=by rw[←hWE];simp[go_sem,lr,z0,z1,z2,z3,z4,z5,z6]
 have e4:jc WE (w.heap.size+1) 4 (js b2 r.O.length c2):=by rw[←hWE];simp[go_sem,lr,z0,z1,z2,z3,z4,z5,z6]
 have e5:jc WE (w.heap.size+1) 5 (js b3 r.fl.length c3):=by rw[←hWE];simp[go_sem,lr,z0,z1,z2,z3,z4,z5,z6]
 have e6:jc WE (w.heap.size+1) 6 r.T:=by rw[←hWE];simp[go_sem,lr,z0,z1,z2,z3,z4,z5,z6]
 have KB:Hid (jb w WE):=by show Below _ _ _;rw[←hWE];exact Below.setCell (Below.setCell (Below.setCell (Below.setCell (Below.setCell (Below.setCell (Below.setCell (K3) (by simp) _) (by simp) _) (by simp) _) (by simp) _) (by simp) _) (by simp) _) (by simp) _
 have M1:Hid (RtOwn WE (w.heap.size+1+1+1) (js b1 r.A.length c1) (js b2 r.O.length c2) (js b3 r.fl.length c3) r):=by show RtOwn _ _ _ _ _ _;rw[←hWE];exact RtOwn.setCell (RtOwn.setCell (RtOwn.setCell (RtOwn.setCell (RtOwn.setCell (RtOwn.setCell (RtOwn.setCell (HO) (by show _<_;simp) _) (by show _<_;simp) _) (by show _<_;simp) _) (by show _<_;simp) _) (by show _<_;simp) _) (by show _<_;simp) _) (by show _<_;simp) _
 clear hWE;refine bodyPost_ret (v:= .agg #[r.id,r.E,r.X,js b1 r.A.length c1,js b2 r.O.length c2,js b3 r.fl.length c3,r.T]) (by simp[results,Tryz.f132,go_sem,e0,e1,e2,e3,e4,e5,e6]) rfl ?_;exact⟨b1,c1,b2,c2,b3,c3,rfl,M1.base (by omega),KB⟩
theorem zgs {ops:Array Oper}{i:Nat}{o:Oper}{a:Act}{w:World}{Q:Exit→Act→World→Prop}{K:Act→World→Prop}(h:ops[i]? =some o) (hgd:o.guard=none) (s x:Operand) (t:TypeId)
  (ho:o.op= .call {callee:= .builtin .append,args:=#[s,x],argTypes:=#[t,t]})
  (v v':Value) (c:Value) (w':World) (hs:a.eval s=v) (hx:a.eval x=c) (hr:(Builtin.append_ #[t,t] o.type #[v,c]).run Tryz.prog w= .ok v' w')
  (hK:K (a.put o.dst v') w'):wpOp Tryz.prog ops Q i K a w:=by
 unfold wpOp;rw[h];have hw:Region.wanted o (yielded ops a.tmps)=true:=by simp[Region.wanted,hgd]
 simp only[hw,if_true];refine .inl ?_;unfold Oper.wp execOp;simp only[ho,resolve,invoke,builtin,Sem.run_bind,Sem.run_pure,Result.andThen_ok,List.map_toArray,List.map_cons,List.map_nil,hs,hx,hr];exact hK
structure RA (W4 V:World) (g:Nat) (J:Value→Array Value) (T:TypeId) (B:Nat) (row:Value) (X:List Ask) (y:Ask) (ib ip is il:Nat) (v:Nat→Value) (f:Nat→Bool) (s:Nat→Value) (W:World):Prop where
 bel:jb W4 W
 gr:V.grownBy W (some g)
 val: ∀i,i≠ib→i≠ip→f i=true→s i=v i
 o1:f ip=true→f ib=true
 o2:f is=true→f ip=true
 o3:f ip=true→f il=true
 jg:f is=false→jk W g (J row) T
 b:f ib=true→f ip=false→ ∃k,s ib= .slice (some ⟨k,0,none⟩) 1 1∧jk W k (zec y).toArray 281
 t:f ip=false→AskOwn W B row X
 c:f ip=true→f is=false→ ∃a c,s ip= .slice a (X.length+1) c∧AskOwn W B (js a (X.length+1) c) (X++[y])
 d:f is=true→ ∃a c,jk W g (J (js a (X.length+1) c)) T∧AskOwn W B (js a (X.length+1) c) (X++[y])
section
variable {W4 V:World}{g:Nat}{J:Value→Array Value}{T:TypeId}{B:Nat}{row:Value}{X:List Ask}{y:Ask}{ib ip is il:Nat}{v:Nat→Value}{f:Nat→Bool}{s:Nat→Value}{W:World}
theorem RA.start (h1:jb W4 W) (h2:V.grownBy W (some g)) (h3:jk W g (J row) T) (h4:AskOwn W B row X):RA W4 V g J T B row X y ib ip is il v (fun _=>false) s W:=
 ⟨h1,h2,(fun _ _ _ (h:false=true)=>Bool.noConfusion h),(fun(h:false=true)=>Bool.noConfusion h),(fun(h:false=true)=>Bool.noConfusion h),(fun(h:false=true)=>Bool.noConfusion h),fun _=>h3,(fun(h:false=true)=>Bool.noConfusion h),fun _=>h4,(fun(h:false=true)=>Bool.noConfusion h),(fun(h:false=true)=>Bool.noConfusion h)⟩
theorem zfu {j i:Nat}(h:j≠i):(decide (j=i) || f j)=f j:=by rw[decide_eq_false h];rfl
theorem RA.step (h:RA W4 V g J T B row X y ib ip is il v f s W) (i:Nat) (h1:i≠ib) (h2:i≠ip) (h3:i≠is):RA W4 V g J T B row X y ib ip is il v (fun j=>decide (j=i) || f j) (fun j=>if j=i then v i else s j) W:=by
 have e1:=zfu (f:=f) (Ne.symm h1);have e2:=zfu (f:=f) (Ne.symm h2);have e3:=zfu (f:=f) (Ne.symm h3);refine⟨h.bel,h.gr,fun j hj1 hj2 hf=> ?_,?_,?_,(fun hf=>by rw[e2]at hf;rw[h.o3 hf,Bool.or_true]),?_,?_,?_,?_,?_⟩
 ·by_cases e:j=i
  ·subst e;exact if_pos rfl
  ·simp only[if_neg e];rw[decide_eq_false e,Bool.false_or]at hf;exact h.val j hj1 hj2 hf
 ·rw[e1,e2];exact h.o1
 ·rw[e2,e3];exact h.o2
 ·rw[e3];exact h.jg
 ·rw[e1,e2];simp only[if_neg (Ne.symm h1)];exact h.b
 ·rw[e2];exact h.t
 ·rw[e2,e3];simp only[if_neg (Ne.symm h2)];exact h.c
 ·rw[e3];exact h.d
theorem RA.build (h:RA W4 V g J T B row X y ib ip is il v f s W) (n1:ib≠ip) (n2:ib≠is) (hun:f ib=false):RA W4 V g J T B row X y ib ip is il v (fun j=>decide (j=ib) || f j) (fun j=>if j=ib then .slice (some ⟨W.heap.size,0,none⟩) 1 1 else s j) (W.alloc (.cells (zec y).toArray 281)):=by
 have e2:=zfu (f:=f) (Ne.symm n1);have e3:=zfu (f:=f) (Ne.symm n2)
 have hp:f ip=false:=by
  cases k:f ip with
  | false=>rfl
  | true=>rw[h.o1 k]at hun;cases hun
 have hs:f is=false:=by
  cases k:f is with
  | false=>rfl
  | true=>rw[h.o2 k]at hp;cases hp
 refine⟨h.bel.alloc h.bel.size _,⟨h.gr.os,h.gr.tape,h.gr.output,by simp;exact Nat.le_succ_of_le h.gr.size,fun j hj hne=>(heap_alloc_old _ _ (Nat.lt_of_lt_of_le hj h.gr.size)).trans (h.gr.block j hj hne)⟩,fun j hj1 hj2 hf=> ?_,fun _=>by simp,?_,(fun hf=>by rw[e2,hp]at hf;cases hf),?_,fun _ _=>⟨W.heap.size,if_pos rfl,heap_alloc_new _ _⟩,?_,?_,?_⟩
 ·simp only[if_neg hj1];rw[decide_eq_false hj1,Bool.false_or]at hf;exact h.val j hj1 hj2 hf
 ·rw[e2,e3];exact h.o2
 ·rw[e3];exact fun k=>(heap_alloc_old _ _ (zad (h.jg k))).trans (h.jg k)
 ·rw[e2];exact fun k=>(show World.ownsRow _ _ _ _ _ _ _ from World.ownsRow.alloc (h.t k) _)
 ·rw[e2,hp];intro k;cases k
 ·rw[e3,hs];intro k;cases k
theorem RA.append (h:RA W4 V g J T B row X y ib ip is il v f s W) (n1:ib≠ip) (n2:ip≠is) (hb:f ib=true) (hun:f ip=false) (hg:g<B) (hg2:W4.heap.size≤B) (hV:V.heap.size=B) (hX:X.length≤1000) (hil:f il=true):
  ∃k a c w',s ib= .slice (some ⟨k,0,none⟩) 1 1∧(∀tt,(Builtin.append_ #[182,182] tt #[row,jq k 0 1 1]).run Tryz.prog W= .ok (js a (X.length+1) c) w')∧RA W4 V g J T B row X y ib ip is il v (fun j=>decide (j=ip) || f j) (fun j=>if j=ip then .slice a (X.length+1) c else s j) w':=by
 obtain⟨k,ek,hk⟩:=h.b hb hun
 have hs:f is=false:=by
  cases k:f is with
  | false=>rfl
  | true=>rw[h.o2 k]at hun;cases hun
 obtain⟨i0,hi,hz0,hz1,hz2⟩:=info_parts zhq;have hT:=h.t hun;have hBW:B≤W.heap.size:=by rw[←hV];exact h.gr.size
 have hcells: ∀j u,(zec y)[j]? =some u→W.cell? ((⟨k,0,none⟩:Addr).add j)=some u:=fun j u hj=>by
  rw[zfc,cell_of_row _ _ j _ _ _ hk]
  simpa using hj
 obtain⟨v',w',hr,r2,r3,-,-⟩:=run_append_own_at (P:=Tryz.prog) W B 182 182 281 i0 (.agg #[.int .i64 0,.int .i64 0,.int .i64 0]) 3 24 Tryz.underlying182 hi hz0 hz1 hz2 rfl (by decide) row X.length (X.flatMap zec) hT ⟨k,0,none⟩ 1 1 (zec y) rfl hcells (zhx _ _ _) (by unfold maxLen;omega) (by omega) hBW
 have hown:AskOwn w' B v' (X++[y]):=by
  unfold AskOwn;rw[List.length_append,List.flatMap_append]
  simpa using r2
 obtain⟨a,c,rfl⟩: ∃a c,v'= .slice a (X.length+1) c:=by
  rcases r2.2 with⟨_,h0⟩ | ⟨g',cap,cur,rfl,_⟩
  ·omega
  ·exact⟨_,_,rfl⟩
 have hbb:Below B W w':=zcw hT (Nat.le_refl _) hBW r3;have hr': ∀tt,(Builtin.append_ #[182,182] tt #[row,jq k 0 1 1]).run Tryz.prog W= .ok (js a (X.length+1) c) w':=fun tt=>hr;have e1:=zfu (f:=f) n1;have e3:=zfu (f:=f) (Ne.symm n2);refine⟨k,a,c,w',ek,hr',h.bel.trans (hbb.mono hg2),⟨hbb.os.trans h.gr.os,hbb.tape.trans h.gr.tape,hbb.output.trans h.gr.output,Nat.le_trans h.gr.size hbb.size,fun j hj hne=>(hbb.block j (by rw[←hV];exact hj)).trans (h.gr.block j hj hne)⟩,fun j hj1 hj2 hf=> ?_,fun _=>by rw[e1];exact hb,fun _=>by simp,(fun _=>by rw[hil,Bool.or_true]),?_,?_,?_,fun _ _=>⟨a,c,if_pos rfl,hown⟩,?_⟩
 ·simp only[if_neg hj2];rw[decide_eq_false hj2,Bool.false_or]at hf;exact h.val j hj1 hj2 hf
 ·rw[e3];exact fun k=>(hbb.block g hg).trans (h.jg k)
 ·intro _ k;simp at k
 ·intro k;simp at k
 ·rw[e3,hs];intro k;cases k
theorem RA.store (h:RA W4 V g J T B row X y ib ip is il v f s W) (n1:ib≠is) (n2:ip≠is) (hp:f ip=true) (hun:f is=false) (hg:g<B) (hg4:W4.heap.size≤g){a:Option Addr}{c:Nat}(ea:s ip= .slice a (X.length+1) c) (hJ: ∀r1 r2,(J r1).set! 2 r2=J r2):
  RA W4 V g J T B row X y ib ip is il v (fun j=>decide (j=is) || f j) (fun j=>if j=is then v is else s j) (W.setCell ⟨g,2,none⟩ (js a (X.length+1) c)):=by
 obtain⟨a',c',e,hown⟩:=h.c hp hun;rw[ea]at e;obtain⟨rfl,rfl⟩:a=a'∧c=c':=by cases e;exact⟨rfl,rfl⟩
 have e1:=zfu (f:=f) n1;have e2:=zfu (f:=f) n2;have hj:=h.jg hun;refine⟨h.bel.setCell hg4 _,⟨h.gr.os,h.gr.tape,h.gr.output,by simp[World.setCell];exact h.gr.size,fun j hj hne=>(Below.heap_setCell _ _ _ j (fun e=>hne (by rw[e]))).trans (h.gr.block j hj hne)⟩,fun j hj1 hj2 hf=> ?_,?_,fun _=>by rw[e2];exact hp,(fun _=>by rw[h.o3 hp,Bool.or_true]),?_,?_,?_,?_,fun _=>⟨a,c,?_,zag hown hg _⟩⟩
 ·by_cases e:j=is
  ·subst e;exact if_pos rfl
  ·simp only[if_neg e];rw[decide_eq_false e,Bool.false_or]at hf;exact h.val j hj1 hj2 hf
 ·rw[e1,e2];exact h.o1
 ·intro k;simp at k
 ·rw[e2,hp];intro _ k;cases k
 ·rw[e2,hp];intro k;cases k
 ·intro _ k;simp at k
 ·have:=hJ row (js a (X.length+1) c);simp[World.setCell,Array.getElem?_modify,hj]
  simpa using this
end
end Go.Proofs.YtbiehpjhhopjaaaGreat
