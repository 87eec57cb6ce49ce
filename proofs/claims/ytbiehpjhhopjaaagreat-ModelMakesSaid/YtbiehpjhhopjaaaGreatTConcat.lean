/-
 way.walk's ask,walked.
-/
import Derived.Test.YtbiehpjhhopjaaaGreatTWayA
import Derived.Deep.LoopGhost
import Derived.Deep.Light
import Derived.Test.YtbiehpjhhopjaaaGreatTPlanA
import Derived.Test.YtbiehpjhhopjaaaGreatTData
import Derived.StillTailTactics
import Derived.Lib.SliceRun
import Derived.Test.YtbiehpjhhopjaaaGreatTPlanF
import Derived.Lib.AppendZeros
import Derived.Laws.AppendOwnNone
set_option linter.unusedVariables false
set_option linter.unusedSimpArgs false
set_option maxRecDepth 100000
set_option maxHeartbeats 16000000
namespace Go.Proofs.YtbiehpjhhopjaaaGreat
open Go.RowKit Go.Sort
theorem WkM.grownA {W w':World}{g:Nat}{p:Pl}{s q gg r va vo:Value}{k:Wk}{o:Obj}(h:WkM W g p s q gg r k va vo) (hg:(W.alloc o).grownBy w' va.ownBlock):
  w'.heap[g]? =W.heap[g]? ∧Off g W w'∧JnOwn w' (g+1) vo k.outs:=by
 have hl:=h.lt;have ha:(W.alloc o).ownsRow (g+1) 281 3 va k.asks.length (k.asks.flatMap zec):=h.asks.alloc o;have hj:(W.alloc o).ownsRow (g+1) 133 2 vo k.outs.length (k.outs.flatMap jnC):=h.outs.alloc o;refine⟨?_,?_,hj.kept hg (zdx hj ha (by decide))⟩
 ·exact(hg.block g (by simp;omega) (fun e=>by have:=(ha.lt g e.symm).1;omega)).trans (heap_alloc_old W o hl)
 ·exact(Off.of_below ((Below.refl _ W).alloc (Nat.le_refl _) o) (Nat.le_of_lt hl)).trans (Off.grown ha (by omega) (by simp;omega) rfl hg)
theorem WkM.grownO {W w':World}{g:Nat}{p:Pl}{s q gg r va vo:Value}{k:Wk}{o:Obj}(h:WkM W g p s q gg r k va vo) (hg:(W.alloc o).grownBy w' vo.ownBlock):
  w'.heap[g]? =W.heap[g]? ∧Off g W w'∧AskOwn w' (g+1) va k.asks:=by
 have hl:=h.lt;have ha:(W.alloc o).ownsRow (g+1) 281 3 va k.asks.length (k.asks.flatMap zec):=h.asks.alloc o;have hj:(W.alloc o).ownsRow (g+1) 133 2 vo k.outs.length (k.outs.flatMap jnC):=h.outs.alloc o;refine⟨?_,?_,ha.kept hg (zdx ha hj (by decide))⟩
 ·exact(hg.block g (by simp;omega) (fun e=>by have:=(hj.lt g e.symm).1;omega)).trans (heap_alloc_old W o hl)
 ·exact(Off.of_below ((Below.refl _ W).alloc (Nat.le_refl _) o) (Nat.le_of_lt hl)).trans (Off.grown hj (by omega) (by simp;omega) rfl hg)
theorem zhx (a b c:Int): ∀u∈[Value.int .i64 a,.int .i64 b,.int .i64 c],u.oneCell'=true:=by
 intro u hu;simp only[List.mem_cons,List.not_mem_nil,or_false]at hu;rcases hu with rfl | rfl | rfl<;>rfl
theorem zkm (a b:Int): ∀u∈[Value.int .i64 a,.int .i64 b],u.oneCell'=true:=by
 intro u hu;simp only[List.mem_cons,List.not_mem_nil,or_false]at hu;rcases hu with rfl | rfl<;>rfl
def zm0 (W:World) (g:Nat) (p:Pl) (s q gg r:Value) (k':Wk) (e:Ending) (W':World):Prop:=
 e= .returned (.tuple #[])∧Off g W W'∧ ∃va' vo',WkM W' g p s q gg r k' va' vo'
def zte (W:World) (g:Nat) (p:Pl) (s q gg r vo:Value) (k':Wk) (e:Ending) (W':World):Prop:=
 e= .returned (.tuple #[])∧Off g W W'∧(∀k c t fr,W.heap[k]? =some (.cells c t fr)→k≠g→t≠281→W'.heap[k]? =some (.cells c t fr))∧ ∃va',WkM W' g p s q gg r k' va' vo
theorem zkn (g:Nat) (p:Pl) (s q gg r va vo:Value) (k:Wk) (pt lie pl:Int) (W:World) (hW:WkM W g p s q gg r k va vo) (hn:k.asks.length≤1000):
  Calls Tryz.prog 308 #[jp g 0,pt,lie,pl] W (zte W g p s q gg r vo (zb9 k pt lie pl)):=by
 have HW:=hI hW;have HE:Hid (zb9 k pt lie pl=if 0<pt∧0<lie then {k with asks:=k.asks++[⟨pt,lie,pl⟩]}else k):=rfl;generalize zb9 k pt lie pl=K at *;have l0:=hW.lt;have y8:=hW.cva;have z8:=hW.frozen 8;clear hW;by_cases h1:0<pt
 ·have t1:decide (0<pt)=true:=by simpa using h1
  by_cases h2:0<lie
  ·have t2:decide (0<lie)=true:=(by simpa using h2);rw[if_pos ⟨h1,h2⟩]at HE;clear h1 h2;go_enter Tryz.func308,Tryz.ntmps308;go_wp2_with (at_builtin;refine zey rfl _ _ 182 281 _ _ 3 24 rfl Tryz.underlying182 zhq rfl (by decide) (by decide) (g+1) va k.asks.length _ rfl HW.asks hn (Nat.succ_le_of_lt l0) [.int .i64 pt,.int .i64 lie,.int .i64 pl] rfl rfl (zhx _ _ _) ?_;intro b' c' w' hown hgr;have hB:=(HW.grownA hgr).1.trans HW.blk;have hF: ∀o,w'.frozen? ⟨g,o,none⟩=false:=fun o=>by {simp[World.frozen?,hB]};have hC:jc w' g 8 va:=jr hB);obtain⟨-,hO,hJ⟩:=HW.grownA hgr;have hE:=HE.out;subst hE;refine bodyPost_ret (v:= .tuple #[]) (by simp[results,Tryz.f308,go_sem]) rfl ⟨rfl,hO.trans (Off.setCell _ _ _ _),?_,_,?_,zag (by simpa [AskOwn,List.flatMap_append,zec]using hown) (by simp) _,zag hJ (by simp) _⟩
   ·intro k c t fr hk hne ht;refine(Below.heap_setCell _ _ _ k hne).trans ?_;have hs:=zhp (M:=fun t=>t==281) (HW.asks.alloc _) rfl hgr;exact hs k c t fr ((heap_alloc_old W _ (zad hk)).trans hk) (by simp[ht])
   ·simp[World.setCell,Array.getElem?_modify,hB]
  ·have t2:decide (0<lie)=false:=(by simpa using h2);rw[if_neg (fun h=>h2 h.2)]at HE;have HE:=HE.out;subst HE;clear h1 h2;go_enter Tryz.func308,Tryz.ntmps308;go_wp2_with fail;exact bodyPost_ret (v:= .tuple #[]) (by simp[results,Tryz.f308,go_sem]) rfl ⟨rfl,Off.refl _ _,fun _ _ _ _ h _ _=>h,_,HW⟩
 ·have t1:decide (0<pt)=false:=by simpa using h1
  rw[if_neg (fun h=>h1 h.1)]at HE;have HE:=HE.out;subst HE;clear h1;go_enter Tryz.func308,Tryz.ntmps308;go_wp2_with fail;exact bodyPost_ret (v:= .tuple #[]) (by simp[results,Tryz.f308,go_sem]) rfl ⟨rfl,Off.refl _ _,fun _ _ _ _ h _ _=>h,_,HW⟩
def ztf (g:Nat) (m:FuncId) (caps:Array Value) (right:Nat→Jn→Bool) (W:World):Prop:=
 ∀W' (e:Nat) (j:Jn),Off g W W'→e<3→Calls Tryz.prog m (#[.int .i64 (e:Int),.agg #[j.to,j.en]]++caps) W' (zae W' (right e j))
theorem ztg {s:Sec}{k:Wk}{right:Nat→Jn→Bool}{e:Nat}(h:e<s.ends.length):zd9 s k right e=(!k.lost&&decide (zc3 s k.inn.en e=0)&&right e s.ends[e]):=by
 unfold zd9;rw[List.getD_eq_getElem?_getD,List.getElem?_eq_getElem h];rfl
theorem zko (g:Nat) (p:Pl) (a1:Option Addr) (c1:Nat) (q gg r va vo:Value) (k:Wk) (id pl:Int) (m:FuncId) (caps:Array Value) (right:Nat→Jn→Bool) (W:World)
  (hW:WkM W g p (js a1 p.S.length c1) q gg r k va vo) (hS: ∀W',Below g W W'→SlA W' 3 zas a1 c1 p.S) (hm:p.S.length≤1000) (hA:za4 p.S p.S.length)
  (hn1:k.asks.length≤900) (hn2:k.outs.length≤900) (hf:zdb m) (hr:ztf g m caps right W):
  Calls Tryz.prog 303 #[jp g 0,id,pl,.func (.func m) #[] caps] W (zm0 W g p (js a1 p.S.length c1) q gg r (zcz p.S k id pl right)):=by
 have hcf: ∀(args:Array Value) (w:World),Sem.run Tryz.prog (callFunc m args) w= .ok (.enter m args) w:=hf;have HC:=hI (zmz g p a1 c1 q gg r va vo k id W hW hS hm);have HR:=hI hr;have hK1:(wkS p.S k id).asks.length≤900:=by rw[zf0];exact hn1
 have hK2:(wkS p.S k id).outs.length≤900:=by rw[zge];exact hn2
 have hS3:(zcs p.S k id).ends.length≤3:=by
  unfold zcs;split
  ·rename_i c
   obtain⟨i,hi,he⟩:=List.getElem_of_mem (ze8 (z:=zcy) c.1).1;rw[←he];rcases(hA i hi hi).1.2.2 with h | h<;>omega
  ·show([]:List Jn).length≤3;decide
 have HT:Hid (zcz p.S k id pl right=zdg (zcs p.S k id) (wkS p.S k id) id pl right):=rfl;rw[HT.out];unfold zkl at HC;generalize zcs p.S k id=S at *;generalize wkS p.S k id=K at *;clear HT hW hS hm hA hn1 hn2 hf hr;go_enter Tryz.func303,Tryz.ntmps303;go_wp2_with fail;refine HC.mono ?_;rintro e w1 ⟨a,c,rfl,hends,hw1,ho1⟩;unfold zcd;have hl1:=hw1.lt;go_wp2_with fail;generalize hWW:w1.alloc _=W1;have hb1:jb w1 W1:=by rw[←hWW];exact jal
 have HO1:Hid (Off g W W1):=ho1.trans (Off.of_below hb1 (Nat.le_of_lt hl1));have HW1:=hI (hw1.below hb1)
 have HY:Hid (∀W',jb W1 W'→jc W' w1.heap.size 0 S.id∧jc W' w1.heap.size 1 S.pt∧jc W' w1.heap.size 2 (js a S.ends.length c)∧w1.heap.size<W'.heap.size):=by
  intro W' hb;refine⟨zac hb (by rw[←hWW];simp),zac hb (by rw[←hWW];simp),zac hb (by rw[←hWW];simp),Nat.lt_of_lt_of_le (by rw[←hWW];simp) hb.size⟩
 have HEN:Hid (∀W',jb W1 W'→SlA W' 2 RJn a c S.ends):=fun W' hb=>(hends.below zcn hb1).below zcn hb;clear hWW hends hw1 ho1;go_loopg [19] S.ends.length (fun g' i wr=> ∃e:Nat,e≤S.ends.length∧g'=S.ends.length-e∧i= .int .i64 e∧jb W1 wr∧ ∀i,i<e→zd9 S K right i=false)
 case atStart=>exact⟨0,by omega,by omega,rfl,Below.refl _ _,fun i h=>by omega⟩
 case round=>
  obtain⟨n,hn,rfl,rfl,hb,hno⟩:=hrel;obtain⟨wo,rfl⟩: ∃wo:World,wo=wr:=⟨_,rfl⟩;have HB:=hI hb;have HNO:=hI hno;clear hb hno;by_cases hlt:n<S.ends.length
  ·have hdk:decide ((n:Int)<(S.ends.length:Int))=true:=(by simp;omega);obtain⟨b,off,rfl,x0,x1⟩:=(HEN _ HB).jn hlt;have c0:(0:Int)≤(n:Int):=(by omega);have c1:(n:Int)<(S.ends.length:Int):=(by omega);have l2:=World.block_lt_of_cell? _ _ x0;have HGO:=hI (ztg (k:=K) (right:=right) hlt)
   have HN1:Hid (zd9 S K right n=false→ ∀i,i<n+1→zd9 S K right i=false):=fun h i hi=>by
    rcases Nat.lt_or_ge i n with h' | h'
    ·exact HNO i h'
    ·obtain rfl:i=n:=(by omega);exact h
   have HAT:Hid (zd9 S K right n=true→zdg S K id pl right={zb9 K S.pt (zdt S K.inn.en n) pl with inn:=S.ends[n],outs:=K.outs++[⟨id,n⟩]}):=fun h=>zra hlt h HNO;go_upto_region 4 with fail;generalize hW4:wo.alloc _=W4;have hb4:jb wo W4:=(by rw[←hW4];exact jal);have HB4:=jh HB hb4;have HJ:Hid (jk W4 wo.heap.size #[S.ends[n].to,S.ends[n].en] 133):=(by show _=_;rw[←hW4];exact heap_alloc_new _ _);have hwk:=HW1.below HB4;obtain⟨s0,s1,s2,ls⟩:=HY _ HB4;have y7:=cell_regrown hwk.en;have z0:=cell_regrown s0;have z1:=cell_regrown s1;have z2:=cell_regrown s2;have cT:Hid (∀d os,Calls Tryz.prog 384 #[.agg #[S.id,S.pt,jq b off S.ends.length c],K.inn.en,.int .i64 (n:Int)] (grow (redrawn W4 d) os) fun e w''=>e= .returned (.tuple #[.int .i64 (zdt S K.inn.en n),.int .i64 (zc3 S K.inn.en n)])∧ ∃p:Regrown,w''=grow (redrawn W4 p.d) p.os):=fun d os=>Calls.regrown_of (ztd S _ c K.inn.en n _)
   have HR4:Hid (∀W',jb W4 W'→Calls Tryz.prog m (#[.int .i64 (n:Int),.agg #[S.ends[n].to,S.ends[n].en]]++caps) W' (zae W' (right n S.ends[n]))):=fun W' hb=>
    HR W' n S.ends[n] (HO1.trans (Off.of_below (jo HB4 hb) (Nat.le_of_lt HW1.lt))) (by omega)
   generalize zdt S K.inn.en n=TL at *;generalize zc3 S K.inn.en n=TE at *;clear hW4 hb4 hwk s0 s1 s2 ls x0 x1 l2;refine wp_region_quiet_below (by kernel_rfl) (by kernel_rfl) ?_
   repeat (go_big_quiet_step (first | (with_reducible exact cT.out _ _)))
   refine wpQuiet_nil ?_;rintro _ ⟨⟨dq,osq⟩,rfl⟩;generalize hW5:grow (redrawn W4 dq) osq=W5;have hb5:jb W4 W5:=(by rw[←hW5];exact below_regrown W4 dq osq);have HB5:=jh HB4 hb5;have HJ5:Hid (jk W5 wo.heap.size #[S.ends[n].to,S.ends[n].en] 133):=jm hb5 HJ;have HWK:=hI (HW1.below HB5);have HR5:=hI (HR4 W5 hb5);have y10:=HWK.lost;obtain⟨j0,j1⟩:=zjt HJ5;have lj:wo.heap.size<W5.heap.size:=zad HJ5;have lg:=HWK.lt;clear hW5 hb5 cT HR4 y7 z0 z1 z2;cases hL:K.lost with
   | true=>
    rw[hL]at y10;have HG:=hI (HN1 (by rw[HGO.out,hL];rfl));clear hL;go_wp2_with fail;go_roundg (S.ends.length-(n+1))
    case measure=>go_light;omega
    case rel=>go_light;exact⟨n+1,by omega,by omega,by go_num,HB5,HG⟩
   | false=>
    rw[hL]at y10;by_cases hE:TE=0
    ·subst hE;cases hR:right n S.ends[n]with
     | false=>
      have HG:=hI (HN1 (by rw[HGO.out,hR];simp));rw[hR]at HR5;clear hL hR;go_wp2_with fail;refine HR5.mono ?_;rintro e w6 ⟨rfl,hb6⟩;have HB6:=jh HB5 hb6;clear hb6 HR5 y10 j0 j1;go_wp2_with fail;go_roundg (S.ends.length-(n+1))
      case measure=>go_light;omega
      case rel=>go_light;exact⟨n+1,by omega,by omega,by go_num,HB6,HG⟩
     | true=>
      have HE:=hI (HAT (by rw[HGO.out,hL,hR];simp));rw[hR]at HR5;clear hL hR;go_wp2_with fail;refine HR5.mono ?_;rintro e w6 ⟨rfl,hb6⟩;have HB6:=jh HB5 hb6;have HJ6:Hid (jk w6 wo.heap.size #[S.ends[n].to,S.ends[n].en] 133):=(hb6.block _ lj).trans HJ5;have HWK6:=hI (HWK.below hb6);obtain⟨s0,s1,s2,ls⟩:=HY _ HB6;clear hb6 HR5 y10 j0 j1 lj lg;go_wp2_with fail;refine(zkn g p _ q gg r va vo K S.pt TL pl w6 HWK6 (by omega)).mono ?_;rintro e w7 ⟨rfl,hO7,hS7,va',hw7⟩;have HO7:=hI (HO1.trans ((Off.of_below HB6 (Nat.le_of_lt HW1.lt)).trans hO7));have hgw:=HW1.lt;have hgo:g<wo.heap.size:=Nat.lt_of_lt_of_le hgw HB.size;have hne:wo.heap.size≠g:=(by omega);have HJ7:Hid (jk w7 wo.heap.size #[S.ends[n].to,S.ends[n].en] 133):=hS7 _ _ _ _ HJ6 hne (by decide);have HVO:Hid (some wo.heap.size≠vo.ownBlock):=fun e=>by have:=(HW1.outs.lt _ e.symm).2;have:=HB.size;omega
      have hKo:(zb9 K S.pt TL pl).outs=K.outs:=zij _ _ _ _;have hK7:(zb9 K S.pt TL pl).outs.length≤900:=(by rw[hKo];exact hK2);rw[←hKo]at HE;generalize zb9 K S.pt TL pl=K7 at *;have HW7:=hI hw7;have l7:=hw7.lt;have u9:=hw7.cvo;clear hO7 hS7 hw7 hKo s0 s1 s2 ls HGO HN1 HAT HWK HWK6 HJ HJ5 HJ6;go_wp2_with (at_builtin;refine zey rfl _ _ 78 133 _ _ 2 16 rfl Tryz.underlying78 zj3 rfl (by decide) (by decide) (g+1) vo K7.outs.length _ rfl HW7.outs (by omega) (Nat.succ_le_of_lt l7) [.int .i64 id,.int .i64 (n:Int)] rfl rfl (zkm _ _) ?_;intro b' c' w8 hown hgr;have hB:=(HW7.grownO hgr).1.trans HW7.blk;have hF: ∀o,w8.frozen? ⟨g,o,none⟩=false:=fun o=>by {simp[World.frozen?,hB]};have hC9:jc w8 g 9 vo:=jr hB;have hC6:jc w8 g 6 K7.inn.to:=jr hB;have hC7:jc w8 g 7 K7.inn.en:=jr hB;have hJ8:jk w8 wo.heap.size #[S.ends[n].to,S.ends[n].en] 133:=(hgr.block _ (by {have:=zad HJ7;simp;omega}) HVO).trans ((heap_alloc_old w7 _ (zad HJ7)).trans HJ7);have hj0:jc w8 wo.heap.size 0 S.ends[n].to:=jr hJ8;have hj1:jc w8 wo.heap.size 1 S.ends[n].en:=jr hJ8);obtain⟨-,hO8,hA8⟩:=HW7.grownO hgr;refine bodyPost_ret (v:= .tuple #[]) (by simp[results,Tryz.f303,go_sem]) rfl ⟨rfl,HO7.trans (hO8.trans ((Off.setCell _ _ _ _).trans ((Off.setCell _ _ _ _).trans (Off.setCell _ _ _ _)))),va',.slice (some ⟨b',0,none⟩) (K7.outs.length+1) c',?_⟩;rw[HE.out];refine⟨by simp[World.setCell,Array.getElem?_modify,hB],zag (zag (zag hA8 (by simp) _) (by simp) _) (by simp) _,zag (zag (zag ?_ (by simp) _) (by simp) _) (by simp) _⟩
      simpa [JnOwn,List.flatMap_append,jnC]using hown
    ·have t1:(TE != 0)=true:=(by simpa using hE);have HG:=hI (HN1 (by rw[HGO.out];simp[hE]));clear hL hE;go_wp2_with fail;go_roundg (S.ends.length-(n+1))
     case measure=>go_light;omega
     case rel=>go_light;exact⟨n+1,by omega,by omega,by go_num,HB5,HG⟩
  ·obtain rfl:n=S.ends.length:=(by omega);have HE:Hid (zdg S K id pl right={K with lost:=true}):=zrb HNO;have HWO:=hI (HW1.below HB);have y10:=HWO.lost;have z10:=HWO.frozen 10;go_wp2_with fail;refine bodyPost_ret (v:= .tuple #[]) (by simp[results,Tryz.f303,go_sem]) rfl ?_;refine⟨rfl,HO1.trans ((Off.of_below HB (Nat.le_of_lt HW1.lt)).trans (Off.setCell _ _ _ _)),va,vo,?_⟩;rw[HE.out];exact HWO.setLost
theorem zth:zdb 304:=fun args w=>by simp[go_sem]
theorem zti:zdb 305:=fun args w=>by simp[go_sem]
theorem ztj:zdb 307:=fun args w=>by simp[go_sem]
theorem ztk (e:Nat) (j:Jn) (w:World):Calls Tryz.prog 304 (#[.int .i64 (e:Int),.agg #[j.to,j.en]]++#[]) w (zae w (zfk e j)):=by
 have h1:=zhr;have HE:Hid (zfk e j=decide (j.to=0∧j.en=0)):=rfl;generalize zfk e j=B at *;go_enter Tryz.func304,Tryz.ntmps304;go_wp2_with fail;go_ret;exact⟨zab (by rw[HE.out];simp),jal⟩
theorem ztl (s:Int) (x:Sg) (bs bx:Nat) (e:Nat) (j:Jn) (w:World) (h0:jc w bs 0 s) (h1:jc w bx 1 x.sec) (h2:jc w bx 2 x.en):
  Calls Tryz.prog 305 (#[.int .i64 (e:Int),.agg #[j.to,j.en]]++#[.pointer (some ⟨bs,0,none⟩),.pointer (some ⟨bx,0,none⟩)]) w (zae w (zfz s x e j)):=by
 have HE:Hid (zfz s x e j=decide (s=x.sec∧(e:Int)=x.en)):=rfl;generalize zfz s x e j=B at *;have l0:=World.block_lt_of_cell? _ _ h0;have l1:=World.block_lt_of_cell? _ _ h1;go_enter Tryz.func305,Tryz.ntmps305;go_wp2_with fail
 all_goals
  go_ret;exact⟨zab (by rw[HE.out,Bool.eq_iff_iff];simp_all),jal⟩
theorem ztm (l:List Int) (i:Nat) (ba bi:Nat) (a:Option Addr) (c:Nat) (e:Nat) (j:Jn) (w:World) (h0:jc w ba 0 (js a l.length c)) (hl:IL w a l.length l) (h1:jc w bi 0 (.int .i64 (i:Int))) (hi:i+1<l.length) (hm:l.length≤1000):
  Calls Tryz.prog 307 (#[.int .i64 (e:Int),.agg #[j.to,j.en]]++#[.pointer (some ⟨ba,0,none⟩),.pointer (some ⟨bi,0,none⟩)]) w (zae w (zgd (l.getD (i+1) 0) e j)):=by
 have hd:l.getD (i+1) 0=l[i+1]:=by rw[List.getD_eq_getElem?_getD,List.getElem?_eq_getElem hi];rfl
 rw[hd];obtain⟨b,off,rfl,x0⟩:=hl.cell (i+1) hi;have HE:Hid (zgd l[i+1] e j=decide (j.to=l[i+1])):=rfl;generalize zgd l[i+1] e j=B at *;generalize l[i+1]=n at *;generalize l.length=L at *;have l0:=World.block_lt_of_cell? _ _ h0;have l1:=World.block_lt_of_cell? _ _ h1;have l2:=World.block_lt_of_cell? _ _ x0;have c0:(0:Int)≤(i:Int)+1:=by omega
 have c1:(i:Int)+1<(L:Int):=by omega
 clear hl hd;go_enter Tryz.func307,Tryz.ntmps307;go_wp2_with fail;go_quiet (fail);go_wp2_with fail;go_ret;exact⟨zab (by rw[HE.out];simp[Bool.beq_eq_decide_eq]),zb6 jal _⟩
theorem zm1 {α:Type}(f:α→Int) (z:α) (l:List α) (n:Int):za1 f z (l.take 0) n=z:=by simp[za1]
theorem zm2 {α:Type}{f:α→Int}{z:α}{l:List α}{n:Int}{k:Nat}(h:k<l.length) (hn: ¬f l[k]=n):za1 f z (l.take (k+1)) n=za1 f z (l.take k) n:=by
 unfold za1;rw[List.take_succ_eq_append_getElem h,List.find?_append];have:[l[k]].find? (fun x=>decide (f x=n))=none:=by simp[hn]
 rw[this];cases (l.take k).find? (fun x=>decide (f x=n))<;>rfl
theorem zm3 {α:Type}{f:α→Int}{z:α}{l:List α}{n:Int}{k:Nat}(h:k<l.length) (hR:zat f l l.length) (hn:f l[k]=n):za1 f z (l.take (k+1)) n=l[k]:=by
 unfold za1;rw[List.take_succ_eq_append_getElem h,List.find?_append]
 have hno:(l.take k).find? (fun x=>decide (f x=n))=none:=by
  rw[List.find?_eq_none];intro x hx;obtain⟨i,hi,rfl⟩:=List.getElem_of_mem hx;rw[List.length_take]at hi;rw[List.getElem_take]
  have hlt: ∀d,∀h1:i+d+1<l.length,f l[i]<f l[i+d+1]:=by
   intro d
   induction d with
   | zero=>intro h1;have:=(hR (i+0+1) h1 h1).2 (by omega);simpa using this
   | succ d ih=>
    intro h1;have h2:=ih (by omega);have h3:=(hR (i+(d+1)+1) h1 h1).2 (by omega);have e:i+(d+1)+1-1=i+d+1:=(by omega);simp only[e]at h3;omega
  have:=hlt (k-i-1) (by omega);have e:i+(k-i-1)+1=k:=by omega
  simp only[e]at this;simp;omega
 rw[hno];simp[hn]
theorem ztn {W:World}{g:Nat}{a b c x y z:Value}{T:TypeId}{fr:Nat × Nat}(h:W.heap[g]? =some (.cells #[a,b,c] T fr)):(((W.setCell ⟨g,0,none⟩ x).setCell ⟨g,1,none⟩ y).setCell ⟨g,2,none⟩ z).heap[g]? =some (.cells #[x,y,z] T fr):=by
 simp[World.setCell,Array.getElem?_modify,h]
theorem zto (p:Pl) (s q g r:Value) (id:Int) (w:World) (hp:PlM w s q g r p) (hf:p.Fit) (hR:zat Sg.id p.G p.G.length):
  Calls Tryz.prog 301 #[plV p s q g r,id] w fun e w'=>e= .returned (.agg #[.int .i64 (zbe p id).id,.int .i64 (zbe p id).sec,.int .i64 (zbe p id).en])∧jb w w':=by
 obtain⟨⟨a1,c1,rfl,k1⟩,⟨a2,c2,rfl,k2⟩,⟨a3,c3,rfl,k3⟩,⟨a4,c4,rfl,k4⟩⟩:=hp;have HG:Hid (∀w',jb w w'→SlA w' 3 RSg a3 c3 p.G):=fun w' hb=>k3.below zcu hb;have HRR:=hI hR;have HE:Hid (zbe p id=za1 Sg.id zSg (p.G.take p.G.length) id):=by show _=_;rw[List.take_length];rfl
 have hs:=hf.G;generalize zbe p id=E at *;clear k1 k2 k3 k4 hf hR;unfold plV;go_enter Tryz.func301,Tryz.ntmps301;go_wp2_with fail;generalize hW:(w.alloc _).alloc _=W;have K0:Hid (jb w W):=by show Below _ _ _;rw[←hW];exact jal.alloc (by simp) _
 have HG0:Hid (jk W (w.heap.size+1) #[.int .i64 0,.int .i64 0,.int .i64 0] 145):=by
  show _=_;rw[←hW];exact heap_alloc2_new _ _ _
 clear hW;go_loopg [10] p.G.length (fun g i wr=> ∃k:Nat,k≤p.G.length∧g=p.G.length-k∧i= .int .i64 k∧jb w wr∧jk wr (w.heap.size+1) #[.int .i64 (za1 Sg.id zSg (p.G.take k) id).id,.int .i64 (za1 Sg.id zSg (p.G.take k) id).sec,.int .i64 (za1 Sg.id zSg (p.G.take k) id).en] 145)
 case atStart=>exact⟨0,by omega,by omega,rfl,K0,by rw[zm1];exact HG0⟩
 case round=>
  obtain⟨k,hk,rfl,rfl,hb,hB⟩:=hrel;obtain⟨wo,rfl⟩: ∃wo:World,wo=wr:=⟨_,rfl⟩;have HB:=hI hb;have HBL:=hI hB;have lg:=zad hB;clear hb hB;by_cases hlt:k<p.G.length
  ·have hdk:decide ((k:Int)<(p.G.length:Int))=true:=(by simp;omega);obtain⟨b,off,rfl,x0,x1,x2⟩:=(HG _ HB).sg hlt;have c0:(0:Int)≤(k:Int):=(by omega);have c1:(k:Int)<(p.G.length:Int):=(by omega);have l1:=World.block_lt_of_cell? _ _ x0;have f0: ∀o,wo.frozen? ⟨w.heap.size+1,o,none⟩=false:=fun o=>by simp[World.frozen?,HBL.out]
   obtain⟨z0,z1,z2⟩:=zap HBL;by_cases he:p.G[k].id=id
   ·have t0:(p.G[k].id==id)=true:=(by rw[beq_iff_eq];exact he);have HO:=hI (zm3 (z:=zSg) hlt HRR he);clear he;generalize p.G[k]=X at *;generalize za1 Sg.id zSg (p.G.take k) id=Y at *;go_wp2_with fail;go_roundg (p.G.length-(k+1))
    case measure=>go_light;omega
    case rel=>
     go_light;refine⟨k+1,by omega,by omega,by go_num,?_,?_⟩
     ·exact((((HB.setCell (by simp) _).setCell (by simp) _).setCell (by simp) _)).alloc (by simpa [World.setCell]using HB.out.size) _
     ·rw[HO.out];exact(heap_alloc_old _ _ (by simpa [World.setCell]using lg)).trans (ztn HBL)
   ·have t0:(p.G[k].id==id)=false:=(by rw[beq_eq_false_iff_ne];exact he);have HO:=hI (zm2 (z:=zSg) hlt he);clear he;generalize p.G[k]=X at *;generalize za1 Sg.id zSg (p.G.take k) id=Y at *;go_wp2_with fail;go_roundg (p.G.length-(k+1))
    case measure=>go_light;omega
    case rel=>
     go_light;exact⟨k+1,by omega,by omega,by go_num,HB.alloc HB.size _,by rw[HO.out];exact(heap_alloc_old wo _ lg).trans HBL⟩
  ·obtain rfl:k=p.G.length:=(by omega);have hdk:decide ((p.G.length:Int)<(p.G.length:Int))=false:=(by simp);rw[←HE.out]at HBL;go_wp2_with fail;obtain⟨q0,q1,q2⟩:=zap HBL;exact bodyPost_ret (v:= .agg #[E.id,E.sec,E.en]) (by simp[results,Tryz.f301,go_sem,q0,q1,q2]) rfl ⟨rfl,HB⟩
theorem ztp (g:Nat) (p:Pl) (a1:Option Addr) (c1:Nat) (q gg r va vo:Value) (k:Wk) (id pl:Int) (W:World)
  (hW:WkM W g p (js a1 p.S.length c1) q gg r k va vo) (hS: ∀W',Below g W W'→SlA W' 3 zas a1 c1 p.S) (hm:p.S.length≤1000) (hn1:k.asks.length≤900):
  Calls Tryz.prog 306 #[jp g 0,id,pl] W (zm0 W g p (js a1 p.S.length c1) q gg r (zew p.S k id pl)):=by
 have HC:=hI (zmz g p a1 c1 q gg r va vo k id W hW hS hm);have l0:=hW.lt;have hK1:(wkS p.S k id).asks.length≤900:=by rw[zf0];exact hn1
 have HT:Hid (zew p.S k id pl=if(wkS p.S k id).lost=false∧0<(wkS p.S k id).inn.en then zb9 (wkS p.S k id) (zcs p.S k id).pt (wkS p.S k id).inn.en pl else wkS p.S k id):=by
  show _=_;rw[zrc];rfl
 generalize zew p.S k id pl=R at *;unfold zkl at HC;generalize zcs p.S k id=S at *;generalize wkS p.S k id=K at *;clear hW hS hm hn1;go_enter Tryz.func306,Tryz.ntmps306;go_wp2_with fail;refine HC.mono ?_;rintro e w1 ⟨a,c,rfl,hends,hw1,ho1⟩;unfold zcd;have hl1:=hw1.lt;go_upto_region 1 with fail;generalize hWW:w1.alloc _=W1;have hb1:jb w1 W1:=by rw[←hWW];exact jal
 have HO1:Hid (Off g W W1):=ho1.trans (Off.of_below hb1 (Nat.le_of_lt hl1));have HW1:=hI (hw1.below hb1);have s0:jc W1 w1.heap.size 0 S.id:=by rw[←hWW];simp
 have s1:jc W1 w1.heap.size 1 S.pt:=by rw[←hWW];simp
 have s2:jc W1 w1.heap.size 2 (js a S.ends.length c):=by rw[←hWW];simp
 have y7:=HW1.en;have y10:=HW1.lost;have l1:=HW1.lt;have l2:w1.heap.size<W1.heap.size:=by rw[←hWW];simp
 clear hWW hends hw1 ho1 hb1;cases hL:K.lost with
 | true=>
  rw[hL]at y10;have HE:Hid (R=K):=HT.trans<|if_neg (fun h=>by rw[hL]at h;cases h.1);clear hL;go_wp2_with fail;refine bodyPost_ret (v:= .tuple #[]) (by simp[results,Tryz.f306,go_sem]) rfl ⟨rfl,HO1,va,vo,?_⟩;rw[HE.out];exact HW1
 | false=>
  rw[hL]at y10;by_cases hE:0<K.inn.en
  ·have t1:decide (0<K.inn.en)=true:=(by simpa using hE);have HE:Hid (R=zb9 K S.pt K.inn.en pl):=HT.trans<|if_pos ⟨hL,hE⟩;clear hL hE;go_upto_region 2 with fail
   go_still_tail 9,(by kernel_rfl)
   change wpList _ _ _ _ _ W1.drew;generalize hWD:W1.drew=WD;have hbD:jb W1 WD:=(by rw[←hWD];exact(Below.refl _ _).drew);have HOD:Hid (Off g W WD):=HO1.trans (Off.of_below hbD (Nat.le_of_lt l1));have HWD:=hI (HW1.below hbD);clear hWD hbD s0 s1 s2 y7 y10;go_wp2_with fail;refine(zkn g p _ q gg r va vo K S.pt K.inn.en pl WD HWD (by omega)).mono ?_;rintro e w2 ⟨rfl,hO,-,va',hw⟩;have HO2:Hid (Off g W w2):=HOD.trans hO;have HW2:=hI hw;clear hO hw;go_wp2_with fail;refine bodyPost_ret (v:= .tuple #[]) (by simp[results,Tryz.f306,go_sem]) rfl ⟨rfl,HO2,va',vo,?_⟩;rw[HE.out];exact HW2
  ·have t1:decide (0<K.inn.en)=false:=(by simpa using hE);have HE:Hid (R=K):=HT.trans<|if_neg (fun h=>hE h.2);clear hL hE;go_wp2_with fail;refine bodyPost_ret (v:= .tuple #[]) (by simp[results,Tryz.f306,go_sem]) rfl ⟨rfl,HO1,va,vo,?_⟩;rw[HE.out];exact HW1
theorem zg3:(Tryz.prog.info? 3).map (fun i=>(i.zero,i.size,i.bytes))=some (some (.int .i64 0),1,8):=by kernel_rfl
def IntOwn (w:World) (base:Nat) (v:Value) (l:List Int):Prop:=w.ownsRow base 3 1 v l.length (l.map (.int .i64))
theorem IntOwn.ilv {w:World}{base:Nat}{v:Value}{l:List Int}(h:IntOwn w base v l):ILv w v l:=zj2 h
theorem IL.reads {w:World}{b off:Nat}{l:List Int}(h:IL w (some ⟨b,off,none⟩) l.length l): ∀j u,(l.map (Value.int .i64))[j]? =some u→jc w b (off+j) u:=by
 intro j u hj;rw[List.getElem?_map,Option.map_eq_some_iff]at hj;obtain⟨x,hx,rfl⟩:=hj;obtain⟨hlt,rfl⟩:=List.getElem?_eq_some_iff.1 hx;obtain⟨b',off',e,hc⟩:=h.cell j hlt;cases e;exact hc
theorem ziu (a:Option Addr) (cap:Nat) (l:List Int) (w:World) (hl:IL w a l.length l) (hm:l.length≤17592186044416):
  Calls Tryz.prog 210 #[js a l.length cap] w fun e w'=> ∃v,e= .returned v∧IntOwn w' w.heap.size v l∧jb w w':=by
 have q: ∀(w:World) (a:Option Addr) (n c n' c':Nat),(binOp .eql 54 (js a n c) (.slice none n' c')).run Tryz.prog w= .ok (.bool a.isNone) w:=fun w a n c n' c'=>Go.Lib.run_eql_slice_nil w _ _ a n c n' c' Tryz.underlying54;obtain⟨i0,hi,hz0,hz1,hz2⟩:=info_parts zg3;cases a with
 | none=>
  have h0:l=[]:=by
   cases l with
   | nil=>rfl
   | cons c l=>obtain⟨b,off,e,_⟩:=hl.cell 0 (by simp);cases e
  subst h0;go_enter Tryz.func210,Tryz.ntmps210;go_wp2_with fail;go_ret;exact⟨_,rfl,World.ownsRow_nil _ _ _ _,Below.refl _ _⟩
 | some ad=>
  by_cases h0:l=[]
  ·subst h0;go_enter Tryz.func210,Tryz.ntmps210;go_wp2_with fail;go_ret;exact⟨_,rfl,World.ownsRow_made w #[] 0 (Nat.le_refl _) (Nat.zero_le _) (by simp),jal⟩
  ·obtain⟨b,off,e,-⟩:=hl.cell 0 (List.length_pos_iff.2 h0);cases e;have HR:=hI hl.reads;have HN:Hid ((l.map (Value.int .i64)).length=l.length * 1):=by show _=_;simp
   have H1:Hid (∀u∈l.map (Value.int .i64),u.oneCell'=true):=by
    intro u hu;obtain⟨x,-,rfl⟩:=List.mem_map.1 hu;rfl
   have HL:Hid (∀v W,W.ownsRow w.heap.size 3 1 v (0+l.length) ([]++l.map (Value.int .i64))→IntOwn W w.heap.size v l):=fun v W h=>by rw[Nat.zero_add]at h;exact h
   generalize hq:l.map (Value.int .i64)=news at *
   have HC:Hid (∀j u,news[j]? =some u→(w.alloc (.cells #[] 3)).cell? ((⟨b,off,none⟩:Addr).add j)=some u):=fun j u hj=>by
    rw[Addr.add_lit];exact(((Below.refl w.heap.size w).alloc (Nat.le_refl _) _).cell (p:=⟨b,off+j,none⟩) (block_lt_of_cell (HR j u hj))).trans (HR j u hj)
   have hlen:Hid (0<l.length):=List.length_pos_iff.2 h0;clear hl h0 hq;go_enter Tryz.func210,Tryz.ntmps210;go_wp2_with (at_builtin;refine wpList_append_own_at _ rfl _ _ 54 rfl w.heap.size 3 i0 (.int .i64 0) 1 8 Tryz.underlying54 hi hz0 hz1 hz2 rfl (by decide) _ _ _ rfl (World.ownsRow_made w #[] 0 (Nat.le_refl _) (Nat.zero_le _) (by simp)) ⟨b,off,none⟩ l.length cap news rfl HN HC H1 (by unfold maxLen;omega) (by omega) (by simp) ?_;intro v' w' hown hgr hnil hat);have hgr:(w.alloc (.cells #[] 3)).grownBy w' (some w.heap.size):=hgr;go_ret;exact⟨_,rfl,HL _ _ hown,(((Below.refl _ w).alloc (Nat.le_refl _) _).grown hgr (by simp) (by intro k hk;cases hk;exact Nat.le_refl _))⟩
theorem ztq (n:Nat) (w:World) (hn:n≤1000):
  Calls Tryz.prog 382 #[.slice none 0 0,.int .i64 (n:Int)] w fun e w'=> ∃v,e= .returned v∧w'.ownsRow w.heap.size 3 1 v 0 []∧jb w w':=by
 have c0:(0:Int)≤(n:Int):=by omega
 have t0:decide ((n:Int)<0)=false:=by simp
 by_cases h:n=0
 ·subst h;go_enter Tryz.func382,Tryz.ntmps382;go_wp2_with fail;go_ret;exact⟨_,rfl,World.ownsRow_nil _ _ _ _,Below.refl _ _⟩
 ·have t1:decide (0<(n:Int))=true:=by simp;omega
  have t2:decide (0<n)=true:=by simp;omega
  obtain⟨i0,hi,hz0,hz1,hz2⟩:=info_parts zg3
  obtain⟨C,row,hrun,hc1,hc2,hrow⟩: ∃(C:Nat) (row:Array Value),(∀ty,(Builtin.append_ #[54,3] ty #[.slice none 0 0,.int .i64 (n:Int)]).run Tryz.prog w= .ok (jq w.heap.size 0 n C) (w.drew.alloc (.cells row 3)))∧n≤C∧C≤maxLen∧row.size=C:=by
   have h1:=grownCap_ge w n 0 3;refine⟨grownCap w n 0 3,_,fun ty=>Go.Lib.run_append_nil_zeros w 54 3 ty 3 i0 (.int .i64 0) .i64 .i64 Tryz.underlying54 Tryz.underlying3 hi hz0 n (by omega) (by rw[hz1];decide) (by omega) (by rw[hz2];omega),h1,grownCap_le_maxLen w n 0 3 (by unfold maxLen;omega),?_⟩;simp[Builtin.zeroCells,Value.cells];omega
  have hrun:=hrun 54;have d0:(C:Int)≥0:=by omega
  go_enter Tryz.func382,Tryz.ntmps382;go_wp2_with (at_builtin;refine Go.Lib.wpList_append_run _ rfl _ _ _ _ rfl _ _ rfl rfl _ _ hrun ?_);go_ret;refine⟨_,rfl,⟨rfl,.inr ⟨w.heap.size,C,row,rfl,Nat.le_refl _,heap_alloc_new _ _,Nat.zero_le _,hc2,by rw[hrow,Nat.mul_one],rfl⟩⟩,(Below.refl _ w).drew.alloc (Nat.le_refl _) _⟩
theorem IntOwn.slice {w:World}{base:Nat}{v:Value}{l:List Int}(h:IntOwn w base v l): ∃a c,v= .slice a l.length c:=by
 rcases h.2 with⟨rfl,h0⟩ | ⟨g,cap,cur,rfl,_⟩
 ·exact⟨none,0,by rw[h0]⟩
 ·exact⟨_,_,rfl⟩
theorem zgk {w:World}{ops:Array Oper}{rest:List Oper}{o:Oper}{a:Act}{Q:Exit→Act→World→Prop}(hgd:o.guard=none) (s x:Operand)
  (ho:o.op= .call {callee:= .builtin .append,args:=#[s,x],argTypes:=#[54,54]}) (base:Nat) (v:Value) (xs:List Int) (hs:a.eval s=v) (hown:IntOwn w base v xs)
  (a0:Option Addr) (cap:Nat) (l:List Int) (hx:a.eval x= .slice a0 l.length cap) (hl:IL w a0 l.length l) (hn:xs.length+l.length≤17592186044416) (hbase:base≤w.heap.size)
  (h: ∀a' c' w',IntOwn w' base (js a' (xs++l).length c') (xs++l)→w.grownBy w' v.ownBlock→wpList Tryz.prog ops Q rest (a.put o.dst (js a' (xs++l).length c')) w'):wpList Tryz.prog ops Q (o::rest) a w:=by
 obtain⟨i0,hi,hz0,hz1,hz2⟩:=info_parts zg3;by_cases h0:l=[]
 ·subst h0
  have hrun:(Builtin.append_ #[54,54] o.type #[v,js a0 0 cap]).run Tryz.prog w= .ok v w:=by
   rcases hown.2 with⟨rfl,hz⟩ | ⟨g,cp,cur,rfl,_,_,hnc,_⟩
   ·cases a0<;>simp[Builtin.append_,run_underlying Tryz.underlying54,sizeOf,typeInfo,hi,Builtin.lenOf,Builtin.firstCells,loadCells,loadCellsFrom]
   ·cases a0<;>simp[Builtin.append_,run_underlying Tryz.underlying54,sizeOf,typeInfo,hi,Builtin.lenOf,Builtin.firstCells,hnc,storeCells,loadCells,loadCellsFrom]
  obtain⟨a',c',rfl⟩:=hown.slice;have hk:=h a' c' w (by simpa using hown) ⟨rfl,rfl,rfl,Nat.le_refl _,fun _ _ _=>rfl⟩;refine Go.Lib.wpList_append_run w hgd s x 54 54 ho _ _ hs hx _ _ hrun ?_
  simpa using hk
 ·obtain⟨b,off,rfl,-⟩:=hl.cell 0 (List.length_pos_iff.2 h0);refine wpList_append_own_at w hgd s x 54 ho base 3 i0 (.int .i64 0) 1 8 Tryz.underlying54 hi hz0 hz1 hz2 rfl (by decide) v xs.length _ hs hown ⟨b,off,none⟩ l.length cap (l.map (.int .i64)) hx (by simp) ?_ ?_ (by unfold maxLen;omega) (by omega) hbase ?_
  ·intro j u hj;rw[Addr.add_lit];exact hl.reads j u hj
  ·intro u hu;obtain⟨y,-,rfl⟩:=List.mem_map.1 hu;rfl
  ·intro v' w' h1 h2 _ _
   have h1:IntOwn w' base v' (xs++l):=by
    unfold IntOwn;rw[List.length_append,List.map_append];exact h1
   obtain⟨a',c',rfl⟩:=h1.slice;exact h a' c' w' h1 h2
theorem zm4 (b:Nat) (a1 a2:Option Addr) (c1 c2:Nat) (l1 l2:List Int) (w:World) (h0:jc w b 0 (js a1 l1.length c1)) (h1:jc w b 1 (js a2 l2.length c2)) (k1:IL w a1 l1.length l1) (k2:IL w a2 l2.length l2) (hm1:l1.length≤400) (hm2:l2.length≤400):
  Calls Tryz.prog 302 #[jq b 0 2 2] w fun e w'=> ∃a c,e= .returned (js a (l1++l2).length c)∧IntOwn w' w.heap.size (js a (l1++l2).length c) (l1++l2)∧jb w w':=by
 have HK:Hid (∃(sz:Nat→Nat) (cat:Nat→List Int),sz 0=0∧sz 2=(l1++l2).length∧cat 0=[]∧cat 2=l1++l2∧(∀k,k≤2→sz k≤800∧(cat k).length=sz k)∧ ∀k,k<2→ ∃(a:Option Addr) (c:Nat) (l:List Int),(∀w',jb w w'→jc w' b k (js a l.length c)∧IL w' a l.length l)∧sz (k+1)=sz k+l.length∧cat (k+1)=cat k++l):=by
  refine⟨fun k=>if k=0 then 0 else if k=1 then l1.length else(l1++l2).length,fun k=>if k=0 then []else if k=1 then l1 else l1++l2,rfl,rfl,rfl,rfl,fun k hk=> ?_,fun k hk=> ?_⟩
  ·rcases(show k=0∨k=1∨k=2 by omega)with rfl | rfl | rfl
   ·simp
   ·simp;omega
   ·simp;omega
  ·rcases(show k=0∨k=1 by omega)with rfl | rfl
   ·exact⟨a1,c1,l1,fun w' hb=>⟨zac hb h0,k1.below hb⟩,by simp,by simp⟩
   ·exact⟨a2,c2,l2,fun w' hb=>⟨zac hb h1,k2.below hb⟩,by simp,by simp⟩
 have lb:=World.block_lt_of_cell? _ _ h0;clear h0 h1 k1 k2;obtain⟨sz,cat,z0,z2,y0,y2,hsz,hk⟩:=HK.out;have HSZ:=hI hsz;have HKK:=hI hk;have HY2:=hI y2;rw[←y2];have hz2:(cat 2).length=sz 2:=(hsz 2 (by omega)).2;have HZ2:=hI z2;have HZ0:=hI hz2;clear HK hsz hk y2 z2 hz2;go_enter Tryz.func302,Tryz.ntmps302;go_wp2_with fail;go_loopg [3,11] 2 (fun g i j wr=> ∃k:Nat,k≤2∧g=2-k∧i= .int .i64 (sz k)∧j= .int .i64 k∧w=wr)
 case atStart=>exact⟨0,by omega,by omega,by rw[z0];rfl,rfl,rfl⟩
 case round=>
  obtain⟨k,hk,rfl,rfl,rfl,rfl⟩:=hrel;by_cases hlt:k<2
  ·have hdk:decide ((k:Int)<2)=true:=(by simp;omega);obtain⟨a,c,l,hr,e1,e2⟩:=HKK k hlt;have x0:=(hr _ (Below.refl _ _)).1;have e0:(0:Int)≤(k:Int):=(by omega);have e3:(k:Int)<2:=(by omega);have hs:=HSZ (k+1) (by omega);have t0:decide (((sz k:Nat):Int)+(l.length:Int)<0)=false:=(by simp;omega);have b1:sz k+l.length≤800:=(by omega);clear hr e2;go_wp2_with fail;go_roundg (2-(k+1))
   case measure=>go_light;omega
   case rel=>go_light;exact⟨k+1,by omega,by omega,by rw[e1];go_num,by go_num,rfl⟩
  ·obtain rfl:k=2:=(by omega);have hdk:decide ((2:Int)<2)=false:=rfl;have hs:=(HSZ 2 (by omega)).1;go_wp2_with fail;refine(ztq (sz 2) _ (by omega)).mono ?_;rintro e w1 ⟨v,rfl,hown,hb1⟩;have HB1:=hI hb1;have HO1:Hid (IntOwn w1 w.heap.size v (cat 0)):=(by show IntOwn _ _ _ _;rw[y0];exact hown);obtain⟨va,vc,rfl⟩:=HO1.slice;clear hown hb1 hs;go_wp2_with fail;go_loopg [6,27] 2 (fun g i j wr=> ∃(k:Nat) (a:Option Addr) (c:Nat),k≤2∧g=2-k∧i= .slice a (cat k).length c∧j= .int .i64 k∧jb w wr∧IntOwn wr w.heap.size (js a (cat k).length c) (cat k))
   case atStart=>exact⟨0,va,vc,by omega,by omega,by rw[y0];rfl,rfl,HB1,HO1⟩
   case round=>
    obtain⟨k,a,c,hk,rfl,rfl,rfl,hb,ho⟩:=hrel;have HB:=hI hb;have HO:=hI ho;have hbs:=hb.size;clear hb ho;by_cases hlt:k<2
    ·have hdk:decide ((k:Int)<2)=true:=(by simp;omega);obtain⟨a',c',l,hr,e1,e2⟩:=HKK k hlt;have x0:=(hr _ HB).1;have HX:=hI (hr _ HB).2;have e0:(0:Int)≤(k:Int):=(by omega);have e3:(k:Int)<2:=(by omega);have hs:=(HSZ (k+1) (by omega)).1;have hs2:=(HSZ k (by omega)).2;have HE2:=hI e2;have hll:(cat k).length+l.length≤17592186044416:=(by omega);clear hr e2 e1 hs hs2;go_wp2_with (at_builtin;refine zgk rfl _ _ rfl w.heap.size _ (cat k) rfl HO a' c' l rfl HX hll hbs ?_;intro a3 c3 w3 hown hgr);rw[←HE2.out]at hown;go_roundg (2-(k+1))
     case measure=>go_light;omega
     case rel=>go_light;exact⟨k+1,a3,c3,by omega,by omega,by rw[HE2.out,List.length_append],by go_num,HB.trans (zcw HO (Nat.le_refl _) hbs hgr),hown⟩
    ·obtain rfl:k=2:=(by omega);have hdk:decide ((2:Int)<2)=false:=rfl;go_wp2_with fail;go_ret;exact⟨a,c,rfl,HO,HB⟩
end Go.Proofs.YtbiehpjhhopjaaaGreat
