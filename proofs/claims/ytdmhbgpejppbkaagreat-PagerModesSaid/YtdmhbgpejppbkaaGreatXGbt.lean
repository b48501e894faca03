/- The plain law of checkpoint. pager: what calls answer where there is no transaction, or is one; where the power has gone. Checkpoint and Mode as they are seen from without. Mode as it is seen from without. -/
import Derived.Test.YtdmhbgpejppbkaaGreatXGbs
import Derived.Test.YtdmhbgpejppbkaaGreatXGbg
import Derived.Test.YtdmhbgpejppbkaaGreatXGbp
set_option maxRecDepth 100000
set_option maxHeartbeats 2000000
namespace Go.Proofs.YtdmhbgpejppbkaaGreat
open Go.Lib (hid)
open Go.RowKit Go.Maps
structure CklZ (P:Pgr) (S:Int→By) (l:List Int):Prop where
 can:∀ (k:Nat) n,l[k]?=some n→n<(P.head.pages:Int)→CanLay (P.ckl S (l.take k)).d n.toNat (S n)
 zk:∀ k:Nat,Dz (P.ckl S (l.take k)).d∧(P.ckl S (l.take k)).d.now bf=P.d.now bf∧(P.ckl S (l.take k)).d.has bf=P.d.has bf
 z:Dz (P.ckl S l).d
 now:∀ m,m≠aA→(P.ckl S l).d.now m=P.d.now m
 has:∀ m,m≠aA→(P.ckl S l).d.has m=P.d.has m
 on:∀ m:Nat,(m:Int) ∈ l→m<P.head.pages→aF (P.ckl S l).d m (S m)
 old:∀ (m:Nat) t,(m:Int) ∉ l→aF P.d m t→aF (P.ckl S l).d m t
 life:(P.ckl S l).d.life=P.d.life
 ml:(P.d.now aA).length≤((P.ckl S l).d.now aA).length
theorem qO (P:Pgr) (S:Int→By) (n:Int) (l:List Int):P.ckl S (n :: l)=(if n<(P.head.pages:Int) then ({ P with d:=P.d.lay n.toNat (S n) }:Pgr) else P).ckl S l:=by
 unfold Pgr.ckl;rw [List.foldl_cons]
 split <;> rfl
theorem xt {S:Int→By}:∀ (l:List Int) (P:Pgr),Dz P.d→P.head.pages≤80→l.Nodup→(∀ n ∈ l,(∃ q:Nat,n=q)∧(S n).length=232)→CklZ P S l
 | [],P,h,_,_,_=>⟨fun k n hn=>(by cases hn),fun k=>by rw [List.take_nil];exact ⟨h,rfl,rfl⟩,h,fun _ _=>rfl,fun _ _=>rfl,fun m hm=>(by cases hm),fun _ _ _ h=>h,rfl,Nat.le_refl _⟩
 | n :: l,P,h,hp,hnd,hok=>by
   obtain ⟨⟨q,rfl⟩,hs⟩:=hok n (by simp);rw [List.nodup_cons] at hnd;by_cases hq:(q:Int)<(P.head.pages:Int)
   ·have hL:=wC h (n:=q) (s:=S q) (by omega) hs;have e3:∀ l',P.ckl S ((q:Int) :: l')=({ P with d:=P.d.lay q (S q) }:Pgr).ckl S l':=fun l'=>by rw [qO,if_pos hq,Int.toNat_natCast]
    have ih:=xt (S:=S) l { P with d:=P.d.lay q (S q) } hL.z hp hnd.2 fun y hy=>hok y (List.mem_cons_of_mem _ hy)
    have hfw:=h.few;have hto:=h.total;refine ⟨fun k y hy hyp=>?_,fun k=>?_,by rw [e3];exact ih.z,fun m hm=>by rw [e3,ih.now m hm];exact (hL.now m).trans (if_neg hm),fun m hm=>by rw [e3,ih.has m hm];exact hL.has m hm,fun m hm hmp=>?_,fun m t hm ho=>?_,by rw [e3,ih.life];exact lC _ _ _,?_⟩
    ·cases k with
     | zero=>
       injection hy with hy
       subst hy;rw [List.take_zero,Int.toNat_natCast];exact ⟨h.fine,fun _=>by show P.d.files.length<8;omega,by show (P.d.total:Int)+q+1≤P.d.room;rw [h.room];omega,by omega,hs⟩
     | succ k=> rw [List.take_succ_cons,e3];exact ih.can k y hy hyp
    ·cases k with
     | zero=>rw [List.take_zero];exact ⟨h,rfl,rfl⟩
     | succ k=> rw [List.take_succ_cons,e3];obtain ⟨a,b,c⟩:=ih.zk k;exact ⟨a,b.trans ((hL.now bf).trans (if_neg ma_lo.symm)),c.trans (hL.has bf ma_lo.symm)⟩
    ·rw [e3];rcases List.mem_cons.1 hm with e | hm
     ·have:m=q:=by omega
      subst this;exact ih.old m _ hnd.1 (oR hL)
     ·exact ih.on m hm hmp
    ·rw [e3];refine ih.old m t (fun hx=>hm (List.mem_cons_of_mem _ hx)) (ku hL (fun e=>hm (by rw [e];simp)) ho)
    ·rw [e3];refine Nat.le_trans ?_ ih.ml;show (P.d.now aA).length≤((P.d.lay q (S q)).now aA).length;rw [hL.now,if_pos rfl,lD];omega
   ·have e3:∀ l',P.ckl S ((q:Int) :: l')=P.ckl S l':=fun l'=>by rw [qO,if_neg hq]
    have ih:=xt (S:=S) l P h hp hnd.2 fun y hy=>hok y (List.mem_cons_of_mem _ hy)
    refine ⟨fun k y hy hyp=>?_,fun k=>?_,by rw [e3];exact ih.z,fun m hm=>by rw [e3];exact ih.now m hm,fun m hm=>by rw [e3];exact ih.has m hm,fun m hm hmp=>?_,fun m t hm ho=>by rw [e3];exact ih.old m t (fun hx=>hm (List.mem_cons_of_mem _ hx)) ho,by rw [e3];exact ih.life,by rw [e3];exact ih.ml⟩
    ·cases k with
     | zero=>
       injection hy with hy
       subst hy;exact (hq hyp).elim
     | succ k=> rw [List.take_succ_cons,e3];exact ih.can k y hy hyp
    ·cases k with
     | zero=>rw [List.take_zero];exact ⟨h,rfl,rfl⟩
     | succ k=>rw [List.take_succ_cons,e3];exact ih.zk k
    ·rw [e3];rcases List.mem_cons.1 hm with e | hm
     ·omega
     ·exact ih.on m hm hmp
theorem wF (l:List Ft):∀ p ∈ bA (mH l),∃ x ∈ l,p.1=(x.1:Int):=by
 refine cM (p:=fun l=>∀ p ∈ bA (mH l),∃ x ∈ l,p.1=(x.1:Int)) (fun p hp=>absurd hp List.not_mem_nil) (fun l x ih p hp=>?_) l;rw [gQ] at hp;rcases cy hp with e | e
 ·exact ⟨x,by simp,by rw [e]⟩
 ·obtain ⟨y,hy,e2⟩:=ih p e;exact ⟨y,List.mem_append_left _ hy,e2⟩
theorem wq {d d':Dk} {l:List Fr} {n:Nat} {s:By} (h:LgHas d l n s) (hn:d'.now bf=d.now bf) (hh:d'.has bf=d.has bf):LgHas d' l n s:=by
 obtain ⟨⟨i,k,m,f,h1,h2,h3,h4⟩,h5⟩:=h;have e:d.has bf=true:=by unfold Dk.has;rw [h3];rfl
 obtain ⟨f',f1,f2⟩:=ce (hh.trans e);obtain ⟨f0,g1,g2⟩:=ce e;rw [h3] at g1;injection g1 with g1
 subst g1;exact ⟨⟨i,k,m,f',h1,h2,f1,by rw [f2,hn,← g2];exact h4⟩,h5⟩
structure CkZ (P:Pgr) (C:Int→By) (S:Int→By) (fr:List Fr):Prop where
 can:CanCk P S fr
 z:Dz (P.ck S fr).d
 on:∀ m:Nat,1≤m→m<P.head.pages→aF (P.ck S fr).d m (C m)
 nl:(P.ck S fr).d.has bf=false
 nj:(P.ck S fr).d.has aQ=false
 ml:P.head.pages≤((P.ck S fr).d.now aA).length
 life:(P.ck S fr).d.life=P.d.life
theorem Cg {P:Pgr} {C:Int→By} {fr:List Fr} {its:List Ft} (hz:Dz P.d) (hl:P.lg=some fr) (hm:LZ P.base C P.d fr its its.length) (hp:P.head.pages≤80) (hb:∀ m:Nat,1≤m→m<P.head.pages→m<P.base):∃ S,CkZ P C S fr:=by
 obtain ⟨S,hS⟩:∃ S:Int→By,S=fun n=>(dp its n.toNat).getD []:=⟨_,rfl⟩
 have hfr:=hm.fr
 have hkey:∀ n:Int,n ∈ qY fr→∃ (q:Nat) (s:By),n=q∧q<100∧dp its q=some s∧S n=s∧s.length=232:=fun n hn=>by
  have hn2:=srtI_mem.1 hn;obtain ⟨p,hp,rfl⟩:=List.mem_map.1 hn2;rw [hfr] at hp hn2;obtain ⟨x,hx,e⟩:=wF its p hp;cases ha:dp its x.1 with
  | none=> have h1:=jH ha;have h2:=cC (K:=bA (mH its)) (a:=(x.1:Int));rw [h1,← e,decide_eq_true hn2] at h2;cases h2
  | some s=> obtain ⟨c,hc⟩:=wt ha;refine ⟨x.1,s,e,(hm.ok x hx).1,ha,?_,(hm.ok _ hc).2⟩;rw [hS,e];show (dp its ((x.1:Int)).toNat).getD []=s;rw [Int.toNat_natCast,ha];rfl
 have hin:∀ m:Nat,dp its m≠none→(m:Int) ∈ qY fr:=fun m hne=>by
  cases ha:dp its m with
  | none=>exact (hne ha).elim
  | some s=> obtain ⟨i,c,h1,-⟩:=eV ha;refine srtI_mem.2 ?_;rw [hfr];exact List.mem_map.2 ⟨_,cH h1,rfl⟩
 have hnd:(qY fr).Nodup:=ou (by rw [hfr];exact lG its)
 have hZ:=xt (S:=S) (qY fr) P hz hp hnd fun n hn=>by
  obtain ⟨q,s,e,-,-,e2,e3⟩:=hkey n hn;exact ⟨⟨q,e⟩,by rw [e2];exact e3⟩
 obtain ⟨d0,hd0⟩:∃ d0,(P.ckl S (qY fr)).d=d0:=⟨_,rfl⟩;have z0:Dz d0:=by rw [← hd0];exact hZ.z
 have hml0:0<(d0.now aA).length:=by rw [← hd0];exact Nat.lt_of_lt_of_le hm.ml hZ.ml
 have hma:d0.has aA=true:=by
  cases h:d0.has aA
  ·rw [iN h] at hml0;cases hml0
  ·rfl
 obtain ⟨d1,hd1⟩:∃ d1,(if fr.length=0 then d0 else d0.setF aA Fi.settle)=d1:=⟨_,rfl⟩;have h1:Dz d1∧(∀ m,d1.now m=d0.now m)∧(∀ m,m≠aA→d1.has m=d0.has m)∧d1.life=d0.life:=by
  rw [← hd1]
  split
  ·exact ⟨z0,fun _=>rfl,fun _ _=>rfl,rfl⟩
  ·exact ⟨z0.settle (by simp),fun m=>bG z0.ok,fun m hm=>by rw [cQ z0.ok,decide_eq_false hm];rfl,rfl⟩
 obtain ⟨z1,n1,k1,l1⟩:=h1;have z2:=z1.del bf;have hT:=og z2 P.head.pages;have hck:(P.ck S fr).d=bz (d1.del bf) P.head.pages:=by unfold Pgr.ck Pgr.ckS;rw [hd0,hd1]
 have hn2:∀ m,m≠bf→(d1.del bf).now m=d0.now m:=fun m hm=>by rw [gL z1.ok,if_neg hm,n1]
 have hon0:∀ m:Nat,1≤m→m<P.head.pages→aF d0 m (C m):=fun m m1 m2=>by
  have:=hm.com m m1 (hb m m1 m2);rw [List.take_length] at this;rw [← hd0];rcases this with ha | ⟨ha,ho⟩
  ·have h3:=hin m (by rw [ha];simp);obtain ⟨q,s,e,-,e1,e2,-⟩:=hkey _ h3;have hqm:q=m:=by omega
   subst hqm;rw [ha] at e1;injection e1 with e1
   have:=hZ.on q h3 m2;rw [e2,← e1] at this;exact this
  ·refine hZ.old m _ (fun hx=>?_) ho;obtain ⟨q,s,e,-,e1,-⟩:=hkey _ hx;have hqm:q=m:=by omega
   subst hqm;rw [ha] at e1;cases e1
 have hon:∀ m:Nat,1≤m→m<P.head.pages→aF (P.ck S fr).d m (C m):=fun m m1 m2=>by
  rw [hck];refine hT.on m _ m2 ?_;rw [onDisk_iff,hn2 aA ma_lo,← onDisk_iff];exact hon0 m m1 m2
 refine ⟨S,⟨hl,fun k n hn=>?_,fun k n hn hnp=>⟨?_,hZ.can k n hn hnp⟩,by rw [hd0];exact z0.fine,fun _=>?_⟩,by rw [hck];exact hT.z,hon,?_,?_,?_,?_⟩
 ·obtain ⟨q,s,e,e1,-⟩:=hkey n (List.mem_of_getElem? hn);omega
 ·obtain ⟨q,s,e,-,e1,e2,-⟩:=hkey n (List.mem_of_getElem? hn);obtain ⟨-,b,c⟩:=hZ.zk k;rw [e2,e,Int.toNat_natCast];exact wq (hm.has e1) b c
 ·obtain ⟨f,hf,-⟩:=ce hma;exact ⟨f,by rw [hd0];exact hf⟩
 ·rw [hck,hT.has bf ma_lo.symm,eK z1.ok,if_pos rfl]
 ·rw [hck,hT.has aQ jn_ne,eK z1.ok,if_neg jn_lo,k1 aQ jn_ne,← hd0,hZ.has aQ jn_ne];exact hm.nj
 ·rw [hck];refine pw z2 ?_;rw [hn2 aA ma_lo];by_cases h1:P.head.pages≤1
  ·omega
  ·have:=hon0 (P.head.pages - 1) (by omega) (by omega);rw [onDisk_iff] at this;have:=cB this;omega
 ·rw [hck];refine hT.life.trans ?_;show d1.life=_;rw [l1,← hd0];exact hZ.life
theorem uk (n:Int) (s:ByteArray) (w:World) {L:PgL} {P:Pgr} (h:PgIs w L P) (hu:P.Up) (hb:P.busy=false):
  Calls Tryz.prog 38 #[ai L.gp,.int .i64 n,.string s] w fun e w'=>e=.returned (.int .i64 40)∧Below w.heap.size w w':=by
 have hA:Below w.heap.size w (w.alloc (.cells #[.bool true] 4)):=(Below.refl _ w).alloc (Nat.le_refl _) _;have hX:(w.alloc (.cells #[.bool true] 4)).heap[w.heap.size]?=some (.cells #[.bool true] 4 (0,0)):=af rfl;have HB:=hid (ak true w.heap.size _ (h.below hA) hu (aa hX 0) (ab hX));rw [hb,show bV (some true) false=40 from rfl] at HB;have HA:=hid hA;unfold ai at *;clear h hu hb hA hX;go_enter Tryz.func38,Tryz.ntmps38;go_wp2_with fail;refine HB.out.mono ?_;rintro e w1 ⟨rfl,hb1⟩;have HB1:=hid (HA.out.trans (hb1.mono HA.out.size));clear hb1;go_wp2_with fail;go_ret;exact ⟨rfl,HB1.out⟩
theorem ul (n:Int) (s:ByteArray) (w:World) {L:PgL} {P:Pgr} (h:PgIs w L P) (hd:P.over=true∨P.d.down=true∨P.d.life≠P.life):
  Calls Tryz.prog 38 #[ai L.gp,.int .i64 n,.string s] w fun e w'=>e=.returned (.int .i64 10)∧PTo w L { P with over:=true } w':=by
 have hA:Below w.heap.size w (w.alloc (.cells #[.bool true] 4)):=(Below.refl _ w).alloc (Nat.le_refl _) _;have HB:=hid (aY (.slice (some ⟨w.heap.size,0,none⟩) 1 1) _ (h.below hA) hd);have HA:=hid hA;unfold ai at *;clear h hd hA;go_enter Tryz.func38,Tryz.ntmps38;go_wp2_with fail;refine HB.out.mono ?_;rintro e w1 ⟨rfl,hr⟩;have HR:=hid (PTo.pre hr HA.out);clear hr;go_wp2_with fail;go_ret;exact ⟨rfl,HR.out⟩
theorem um  (w:World) {L:PgL} {P:Pgr} (h:PgIs w L P) (hu:P.Up) (hb:P.busy=false):
  Calls Tryz.prog 37 #[ai L.gp] w fun e w'=>e=.returned (.tuple #[.int .i64 0,.int .i64 40])∧Below w.heap.size w w':=by
 have hA:Below w.heap.size w (w.alloc (.cells #[.bool true] 4)):=(Below.refl _ w).alloc (Nat.le_refl _) _;have hX:(w.alloc (.cells #[.bool true] 4)).heap[w.heap.size]?=some (.cells #[.bool true] 4 (0,0)):=af rfl;have HB:=hid (ak true w.heap.size _ (h.below hA) hu (aa hX 0) (ab hX));rw [hb,show bV (some true) false=40 from rfl] at HB;have HA:=hid hA;unfold ai at *;clear h hu hb hA hX;go_enter Tryz.func37,Tryz.ntmps37;go_wp2_with fail;refine HB.out.mono ?_;rintro e w1 ⟨rfl,hb1⟩;have HB1:=hid (HA.out.trans (hb1.mono HA.out.size));clear hb1;go_wp2_with fail;go_ret2;exact ⟨rfl,HB1.out⟩
theorem un  (w:World) {L:PgL} {P:Pgr} (h:PgIs w L P) (hd:P.over=true∨P.d.down=true∨P.d.life≠P.life):
  Calls Tryz.prog 37 #[ai L.gp] w fun e w'=>e=.returned (.tuple #[.int .i64 0,.int .i64 10])∧PTo w L { P with over:=true } w':=by
 have hA:Below w.heap.size w (w.alloc (.cells #[.bool true] 4)):=(Below.refl _ w).alloc (Nat.le_refl _) _;have HB:=hid (aY (.slice (some ⟨w.heap.size,0,none⟩) 1 1) _ (h.below hA) hd);have HA:=hid hA;unfold ai at *;clear h hd hA;go_enter Tryz.func37,Tryz.ntmps37;go_wp2_with fail;refine HB.out.mono ?_;rintro e w1 ⟨rfl,hr⟩;have HR:=hid (PTo.pre hr HA.out);clear hr;go_wp2_with fail;go_ret2;exact ⟨rfl,HR.out⟩
theorem rS (n:Int) (w:World) {L:PgL} {P:Pgr} (h:PgIs w L P) (hu:P.Up) (hb:P.busy=false):
  Calls Tryz.prog 46 #[ai L.gp,.int .i64 n] w fun e w'=>e=.returned (.int .i64 40)∧Below w.heap.size w w':=by
 have hA:Below w.heap.size w (w.alloc (.cells #[.bool true] 4)):=(Below.refl _ w).alloc (Nat.le_refl _) _;have hX:(w.alloc (.cells #[.bool true] 4)).heap[w.heap.size]?=some (.cells #[.bool true] 4 (0,0)):=af rfl;have HB:=hid (ak true w.heap.size _ (h.below hA) hu (aa hX 0) (ab hX));rw [hb,show bV (some true) false=40 from rfl] at HB;have HA:=hid hA;unfold ai at *;clear h hu hb hA hX;go_enter Tryz.func46,Tryz.ntmps46;go_wp2_with fail;refine HB.out.mono ?_;rintro e w1 ⟨rfl,hb1⟩;have HB1:=hid (HA.out.trans (hb1.mono HA.out.size));clear hb1;go_wp2_with fail;go_ret;exact ⟨rfl,HB1.out⟩
theorem rT (n:Int) (w:World) {L:PgL} {P:Pgr} (h:PgIs w L P) (hd:P.over=true∨P.d.down=true∨P.d.life≠P.life):
  Calls Tryz.prog 46 #[ai L.gp,.int .i64 n] w fun e w'=>e=.returned (.int .i64 10)∧PTo w L { P with over:=true } w':=by
 have hA:Below w.heap.size w (w.alloc (.cells #[.bool true] 4)):=(Below.refl _ w).alloc (Nat.le_refl _) _;have HB:=hid (aY (.slice (some ⟨w.heap.size,0,none⟩) 1 1) _ (h.below hA) hd);have HA:=hid hA;unfold ai at *;clear h hd hA;go_enter Tryz.func46,Tryz.ntmps46;go_wp2_with fail;refine HB.out.mono ?_;rintro e w1 ⟨rfl,hr⟩;have HR:=hid (PTo.pre hr HA.out);clear hr;go_wp2_with fail;go_ret;exact ⟨rfl,HR.out⟩
theorem rK (n:Int) (w:World) {L:PgL} {P:Pgr} (h:PgIs w L P) (hu:P.Up) (hb:P.busy=false):
  Calls Tryz.prog 47 #[ai L.gp,.int .i64 n] w fun e w'=>e=.returned (.int .i64 40)∧Below w.heap.size w w':=by
 have hA:Below w.heap.size w (w.alloc (.cells #[.bool true] 4)):=(Below.refl _ w).alloc (Nat.le_refl _) _;have hX:(w.alloc (.cells #[.bool true] 4)).heap[w.heap.size]?=some (.cells #[.bool true] 4 (0,0)):=af rfl;have HB:=hid (ak true w.heap.size _ (h.below hA) hu (aa hX 0) (ab hX));rw [hb,show bV (some true) false=40 from rfl] at HB;have HA:=hid hA;unfold ai at *;clear h hu hb hA hX;go_enter Tryz.func47,Tryz.ntmps47;go_wp2_with fail;refine HB.out.mono ?_;rintro e w1 ⟨rfl,hb1⟩;have HB1:=hid (HA.out.trans (hb1.mono HA.out.size));clear hb1;go_wp2_with fail;go_ret;exact ⟨rfl,HB1.out⟩
theorem rL (n:Int) (w:World) {L:PgL} {P:Pgr} (h:PgIs w L P) (hd:P.over=true∨P.d.down=true∨P.d.life≠P.life):
  Calls Tryz.prog 47 #[ai L.gp,.int .i64 n] w fun e w'=>e=.returned (.int .i64 10)∧PTo w L { P with over:=true } w':=by
 have hA:Below w.heap.size w (w.alloc (.cells #[.bool true] 4)):=(Below.refl _ w).alloc (Nat.le_refl _) _;have HB:=hid (aY (.slice (some ⟨w.heap.size,0,none⟩) 1 1) _ (h.below hA) hd);have HA:=hid hA;unfold ai at *;clear h hd hA;go_enter Tryz.func47,Tryz.ntmps47;go_wp2_with fail;refine HB.out.mono ?_;rintro e w1 ⟨rfl,hr⟩;have HR:=hid (PTo.pre hr HA.out);clear hr;go_wp2_with fail;go_ret;exact ⟨rfl,HR.out⟩
theorem pW  (w:World) {L:PgL} {P:Pgr} (h:PgIs w L P) (hu:P.Up) (hb:P.busy=false):
  Calls Tryz.prog 48 #[ai L.gp] w fun e w'=>e=.returned (.int .i64 40)∧Below w.heap.size w w':=by
 have hA:Below w.heap.size w (w.alloc (.cells #[.bool true] 4)):=(Below.refl _ w).alloc (Nat.le_refl _) _;have hX:(w.alloc (.cells #[.bool true] 4)).heap[w.heap.size]?=some (.cells #[.bool true] 4 (0,0)):=af rfl;have HB:=hid (ak true w.heap.size _ (h.below hA) hu (aa hX 0) (ab hX));rw [hb,show bV (some true) false=40 from rfl] at HB;have HA:=hid hA;unfold ai at *;clear h hu hb hA hX;go_enter Tryz.func48,Tryz.ntmps48;go_wp2_with fail;refine HB.out.mono ?_;rintro e w1 ⟨rfl,hb1⟩;have HB1:=hid (HA.out.trans (hb1.mono HA.out.size));clear hb1;go_wp2_with fail;go_ret;exact ⟨rfl,HB1.out⟩
theorem pX  (w:World) {L:PgL} {P:Pgr} (h:PgIs w L P) (hd:P.over=true∨P.d.down=true∨P.d.life≠P.life):
  Calls Tryz.prog 48 #[ai L.gp] w fun e w'=>e=.returned (.int .i64 10)∧PTo w L { P with over:=true } w':=by
 have hA:Below w.heap.size w (w.alloc (.cells #[.bool true] 4)):=(Below.refl _ w).alloc (Nat.le_refl _) _;have HB:=hid (aY (.slice (some ⟨w.heap.size,0,none⟩) 1 1) _ (h.below hA) hd);have HA:=hid hA;unfold ai at *;clear h hd hA;go_enter Tryz.func48,Tryz.ntmps48;go_wp2_with fail;refine HB.out.mono ?_;rintro e w1 ⟨rfl,hr⟩;have HR:=hid (PTo.pre hr HA.out);clear hr;go_wp2_with fail;go_ret;exact ⟨rfl,HR.out⟩
theorem kU  (w:World) {L:PgL} {P:Pgr} (h:PgIs w L P) (hu:P.Up) (hb:P.busy=false):
  Calls Tryz.prog 49 #[ai L.gp] w fun e w'=>e=.returned (.int .i64 40)∧Below w.heap.size w w':=by
 have hA:Below w.heap.size w (w.alloc (.cells #[.bool true] 4)):=(Below.refl _ w).alloc (Nat.le_refl _) _;have hX:(w.alloc (.cells #[.bool true] 4)).heap[w.heap.size]?=some (.cells #[.bool true] 4 (0,0)):=af rfl;have HB:=hid (ak true w.heap.size _ (h.below hA) hu (aa hX 0) (ab hX));rw [hb,show bV (some true) false=40 from rfl] at HB;have HA:=hid hA;unfold ai at *;clear h hu hb hA hX;go_enter Tryz.func49,Tryz.ntmps49;go_wp2_with fail;refine HB.out.mono ?_;rintro e w1 ⟨rfl,hb1⟩;have HB1:=hid (HA.out.trans (hb1.mono HA.out.size));clear hb1;go_wp2_with fail;go_ret;exact ⟨rfl,HB1.out⟩
theorem kV  (w:World) {L:PgL} {P:Pgr} (h:PgIs w L P) (hd:P.over=true∨P.d.down=true∨P.d.life≠P.life):
  Calls Tryz.prog 49 #[ai L.gp] w fun e w'=>e=.returned (.int .i64 10)∧PTo w L { P with over:=true } w':=by
 have hA:Below w.heap.size w (w.alloc (.cells #[.bool true] 4)):=(Below.refl _ w).alloc (Nat.le_refl _) _;have HB:=hid (aY (.slice (some ⟨w.heap.size,0,none⟩) 1 1) _ (h.below hA) hd);have HA:=hid hA;unfold ai at *;clear h hd hA;go_enter Tryz.func49,Tryz.ntmps49;go_wp2_with fail;refine HB.out.mono ?_;rintro e w1 ⟨rfl,hr⟩;have HR:=hid (PTo.pre hr HA.out);clear hr;go_wp2_with fail;go_ret;exact ⟨rfl,HR.out⟩
theorem rH  (w:World) {L:PgL} {P:Pgr} (h:PgIs w L P) (hu:P.Up) (hb:P.busy=false):
  Calls Tryz.prog 40 #[ai L.gp] w fun e w'=>e=.returned (.int .i64 40)∧Below w.heap.size w w':=by
 have hA:Below w.heap.size w (w.alloc (.cells #[.bool true] 4)):=(Below.refl _ w).alloc (Nat.le_refl _) _;have hX:(w.alloc (.cells #[.bool true] 4)).heap[w.heap.size]?=some (.cells #[.bool true] 4 (0,0)):=af rfl;have HB:=hid (ak true w.heap.size _ (h.below hA) hu (aa hX 0) (ab hX));rw [hb,show bV (some true) false=40 from rfl] at HB;have HA:=hid hA;unfold ai at *;clear h hu hb hA hX;go_enter Tryz.func40,Tryz.ntmps40;go_wp2_with fail;refine HB.out.mono ?_;rintro e w1 ⟨rfl,hb1⟩;have HB1:=hid (HA.out.trans (hb1.mono HA.out.size));clear hb1;go_wp2_with fail;go_ret;exact ⟨rfl,HB1.out⟩
theorem rI  (w:World) {L:PgL} {P:Pgr} (h:PgIs w L P) (hd:P.over=true∨P.d.down=true∨P.d.life≠P.life):
  Calls Tryz.prog 40 #[ai L.gp] w fun e w'=>e=.returned (.int .i64 10)∧PTo w L { P with over:=true } w':=by
 have hA:Below w.heap.size w (w.alloc (.cells #[.bool true] 4)):=(Below.refl _ w).alloc (Nat.le_refl _) _;have HB:=hid (aY (.slice (some ⟨w.heap.size,0,none⟩) 1 1) _ (h.below hA) hd);have HA:=hid hA;unfold ai at *;clear h hd hA;go_enter Tryz.func40,Tryz.ntmps40;go_wp2_with fail;refine HB.out.mono ?_;rintro e w1 ⟨rfl,hr⟩;have HR:=hid (PTo.pre hr HA.out);clear hr;go_wp2_with fail;go_ret;exact ⟨rfl,HR.out⟩
theorem rX (n:Int) (w:World) {L:PgL} {P:Pgr} (h:PgIs w L P) (hu:P.Up) (hb:P.busy=false):
  Calls Tryz.prog 41 #[ai L.gp,.int .i64 n] w fun e w'=>e=.returned (.int .i64 40)∧Below w.heap.size w w':=by
 have hA:Below w.heap.size w (w.alloc (.cells #[.bool true] 4)):=(Below.refl _ w).alloc (Nat.le_refl _) _;have hX:(w.alloc (.cells #[.bool true] 4)).heap[w.heap.size]?=some (.cells #[.bool true] 4 (0,0)):=af rfl;have HB:=hid (ak true w.heap.size _ (h.below hA) hu (aa hX 0) (ab hX));rw [hb,show bV (some true) false=40 from rfl] at HB;have HA:=hid hA;unfold ai at *;clear h hu hb hA hX;go_enter Tryz.func41,Tryz.ntmps41;go_wp2_with fail;refine HB.out.mono ?_;rintro e w1 ⟨rfl,hb1⟩;have HB1:=hid (HA.out.trans (hb1.mono HA.out.size));clear hb1;go_wp2_with fail;go_ret;exact ⟨rfl,HB1.out⟩
theorem rY (n:Int) (w:World) {L:PgL} {P:Pgr} (h:PgIs w L P) (hd:P.over=true∨P.d.down=true∨P.d.life≠P.life):
  Calls Tryz.prog 41 #[ai L.gp,.int .i64 n] w fun e w'=>e=.returned (.int .i64 10)∧PTo w L { P with over:=true } w':=by
 have hA:Below w.heap.size w (w.alloc (.cells #[.bool true] 4)):=(Below.refl _ w).alloc (Nat.le_refl _) _;have HB:=hid (aY (.slice (some ⟨w.heap.size,0,none⟩) 1 1) _ (h.below hA) hd);have HA:=hid hA;unfold ai at *;clear h hd hA;go_enter Tryz.func41,Tryz.ntmps41;go_wp2_with fail;refine HB.out.mono ?_;rintro e w1 ⟨rfl,hr⟩;have HR:=hid (PTo.pre hr HA.out);clear hr;go_wp2_with fail;go_ret;exact ⟨rfl,HR.out⟩
theorem mB (n:Int) (w:World) {L:PgL} {P:Pgr} (h:PgIs w L P) (hu:P.Up) (hb:P.busy=false):
  Calls Tryz.prog 50 #[ai L.gp,.int .i64 n] w fun e w'=>e=.returned (.int .i64 40)∧Below w.heap.size w w':=by
 have hA:Below w.heap.size w (w.alloc (.cells #[.bool true] 4)):=(Below.refl _ w).alloc (Nat.le_refl _) _;have hX:(w.alloc (.cells #[.bool true] 4)).heap[w.heap.size]?=some (.cells #[.bool true] 4 (0,0)):=af rfl;have HB:=hid (ak true w.heap.size _ (h.below hA) hu (aa hX 0) (ab hX));rw [hb,show bV (some true) false=40 from rfl] at HB;have HA:=hid hA;unfold ai at *;clear h hu hb hA hX;go_enter Tryz.func50,Tryz.ntmps50;go_wp2_with fail;refine HB.out.mono ?_;rintro e w1 ⟨rfl,hb1⟩;have HB1:=hid (HA.out.trans (hb1.mono HA.out.size));clear hb1;go_wp2_with fail;go_ret;exact ⟨rfl,HB1.out⟩
theorem mC (n:Int) (w:World) {L:PgL} {P:Pgr} (h:PgIs w L P) (hd:P.over=true∨P.d.down=true∨P.d.life≠P.life):
  Calls Tryz.prog 50 #[ai L.gp,.int .i64 n] w fun e w'=>e=.returned (.int .i64 10)∧PTo w L { P with over:=true } w':=by
 have hA:Below w.heap.size w (w.alloc (.cells #[.bool true] 4)):=(Below.refl _ w).alloc (Nat.le_refl _) _;have HB:=hid (aY (.slice (some ⟨w.heap.size,0,none⟩) 1 1) _ (h.below hA) hd);have HA:=hid hA;unfold ai at *;clear h hd hA;go_enter Tryz.func50,Tryz.ntmps50;go_wp2_with fail;refine HB.out.mono ?_;rintro e w1 ⟨rfl,hr⟩;have HR:=hid (PTo.pre hr HA.out);clear hr;go_wp2_with fail;go_ret;exact ⟨rfl,HR.out⟩
theorem oH  (w:World) {L:PgL} {P:Pgr} (h:PgIs w L P) (hd:P.over=true∨P.d.down=true∨P.d.life≠P.life):
  Calls Tryz.prog 36 #[ai L.gp] w fun e w'=>e=.returned (.int .i64 10)∧PTo w L { P with over:=true } w':=by
 have hA:Below w.heap.size w (w.alloc (.cells #[.bool true] 4)):=(Below.refl _ w).alloc (Nat.le_refl _) _;have HB:=hid (aY (.slice (some ⟨w.heap.size,0,none⟩) 1 1) _ (h.below hA) hd);have HA:=hid hA;unfold ai at *;clear h hd hA;go_enter Tryz.func36,Tryz.ntmps36;go_wp2_with fail;refine HB.out.mono ?_;rintro e w1 ⟨rfl,hr⟩;have HR:=hid (PTo.pre hr HA.out);clear hr;go_wp2_with fail;go_ret;exact ⟨rfl,HR.out⟩
theorem qb  (w:World) {L:PgL} {P:Pgr} (h:PgIs w L P) (hd:P.over=true∨P.d.down=true∨P.d.life≠P.life):
  Calls Tryz.prog 19 #[ai L.gp] w fun e w'=>e=.returned (.int .i64 10)∧PTo w L { P with over:=true } w':=by
 have hA:Below w.heap.size w (w.alloc (.cells #[.bool false] 4)):=(Below.refl _ w).alloc (Nat.le_refl _) _;have HB:=hid (aY (.slice (some ⟨w.heap.size,0,none⟩) 1 1) _ (h.below hA) hd);have HA:=hid hA;unfold ai at *;clear h hd hA;go_enter Tryz.func19,Tryz.ntmps19;go_wp2_with fail;refine HB.out.mono ?_;rintro e w1 ⟨rfl,hr⟩;have HR:=hid (PTo.pre hr HA.out);clear hr;go_wp2_with fail;go_ret;exact ⟨rfl,HR.out⟩
theorem rQ (n:Int) (w:World) {L:PgL} {P:Pgr} (h:PgIs w L P) (hu:P.Up) (hb:P.busy=true):
  Calls Tryz.prog 14 #[ai L.gp,.int .i64 n] w fun e w'=>e=.returned (.int .i64 40)∧Below w.heap.size w w':=by
 have hA:Below w.heap.size w (w.alloc (.cells #[.bool false] 4)):=(Below.refl _ w).alloc (Nat.le_refl _) _;have hX:(w.alloc (.cells #[.bool false] 4)).heap[w.heap.size]?=some (.cells #[.bool false] 4 (0,0)):=af rfl;have HB:=hid (ak false w.heap.size _ (h.below hA) hu (aa hX 0) (ab hX));rw [hb,show bV (some false) true=40 from rfl] at HB;have HA:=hid hA;unfold ai at *;clear h hu hb hA hX;go_enter Tryz.func14,Tryz.ntmps14;go_wp2_with fail;refine HB.out.mono ?_;rintro e w1 ⟨rfl,hb1⟩;have HB1:=hid (HA.out.trans (hb1.mono HA.out.size));clear hb1;go_wp2_with fail;go_ret;exact ⟨rfl,HB1.out⟩
theorem rR (n:Int) (w:World) {L:PgL} {P:Pgr} (h:PgIs w L P) (hd:P.over=true∨P.d.down=true∨P.d.life≠P.life):
  Calls Tryz.prog 14 #[ai L.gp,.int .i64 n] w fun e w'=>e=.returned (.int .i64 10)∧PTo w L { P with over:=true } w':=by
 have hA:Below w.heap.size w (w.alloc (.cells #[.bool false] 4)):=(Below.refl _ w).alloc (Nat.le_refl _) _;have HB:=hid (aY (.slice (some ⟨w.heap.size,0,none⟩) 1 1) _ (h.below hA) hd);have HA:=hid hA;unfold ai at *;clear h hd hA;go_enter Tryz.func14,Tryz.ntmps14;go_wp2_with fail;refine HB.out.mono ?_;rintro e w1 ⟨rfl,hr⟩;have HR:=hid (PTo.pre hr HA.out);clear hr;go_wp2_with fail;go_ret;exact ⟨rfl,HR.out⟩
theorem jA  (w:World) {L:PgL} {P:Pgr} (h:PgIs w L P) (hu:P.Up) (hb:P.busy=true):
  Calls Tryz.prog 51 #[ai L.gp] w fun e w'=>e=.returned (.int .i64 40)∧Below w.heap.size w w':=by
 have hA:Below w.heap.size w (w.alloc (.cells #[.bool false] 4)):=(Below.refl _ w).alloc (Nat.le_refl _) _;have hX:(w.alloc (.cells #[.bool false] 4)).heap[w.heap.size]?=some (.cells #[.bool false] 4 (0,0)):=af rfl;have HB:=hid (ak false w.heap.size _ (h.below hA) hu (aa hX 0) (ab hX));rw [hb,show bV (some false) true=40 from rfl] at HB;have HA:=hid hA;unfold ai at *;clear h hu hb hA hX;go_enter Tryz.func51,Tryz.ntmps51;go_wp2_with fail;refine HB.out.mono ?_;rintro e w1 ⟨rfl,hb1⟩;have HB1:=hid (HA.out.trans (hb1.mono HA.out.size));clear hb1;go_wp2_with fail;go_ret;exact ⟨rfl,HB1.out⟩
theorem jB  (w:World) {L:PgL} {P:Pgr} (h:PgIs w L P) (hd:P.over=true∨P.d.down=true∨P.d.life≠P.life):
  Calls Tryz.prog 51 #[ai L.gp] w fun e w'=>e=.returned (.int .i64 10)∧PTo w L { P with over:=true } w':=by
 have hA:Below w.heap.size w (w.alloc (.cells #[.bool false] 4)):=(Below.refl _ w).alloc (Nat.le_refl _) _;have HB:=hid (aY (.slice (some ⟨w.heap.size,0,none⟩) 1 1) _ (h.below hA) hd);have HA:=hid hA;unfold ai at *;clear h hd hA;go_enter Tryz.func51,Tryz.ntmps51;go_wp2_with fail;refine HB.out.mono ?_;rintro e w1 ⟨rfl,hr⟩;have HR:=hid (PTo.pre hr HA.out);clear hr;go_wp2_with fail;go_ret;exact ⟨rfl,HR.out⟩
theorem pZ (w:World) {L:PgL} {P:Pgr} (h:PgIs w L P) (hd:P.over=true∨P.d.down=true∨P.d.life≠P.life):
  Calls Tryz.prog 17 #[ai L.gp] w fun e w'=>e=.returned (.int .i64 10)∧PTo w L { P with over:=true } w':=by
 have HB:=hid (aY (.slice none 0 0) _ h hd);unfold ai at *;clear h hd;go_enter Tryz.func17,Tryz.ntmps17;go_wp2_with fail;refine HB.out.mono ?_;rintro e w1 ⟨rfl,hr⟩;have HR:=hid hr;clear hr;go_wp2_with fail;go_ret;exact ⟨rfl,HR.out⟩
theorem pe {P Q:Pgr} {C:Int→By} {N p:Nat} {B:Int→By} (h:Uz P C N B) (hb:P.busy=false) (hN:p≤N) (hq:Q={ P with d:=Q.d,lg:=Q.lg }) (hz:Dz Q.d) (hlife:Q.d.life=P.d.life) (hst:∀ m:Nat,1≤m→m<p→bu Q m (B m)) (hmd:Md Q C []):Uz Q C p B:=by
 have hca:Q.ca=P.ca:=by rw [hq]
 have h0:=h.less hN;refine ⟨⟨by rw [hq];exact h.up.over,by rw [hq];exact h.up.lost,hz.fine.up,?_⟩,by rw [hq];exact h.s1,by rw [hq];exact h.s2,⟨hz,?_,hmd,by rw [hq];exact h.y.sp,by rw [hq];exact h.y.base,by rw [hq];exact h.y.ch,h.y.lenB,h.y.lenC,fun _=>⟨by rw [hca];exact (h.y.calm hb).1,rfl⟩⟩,(by have e:Q.size=P.size:=(by rw [hq]);rw [hca,e];exact h.fit),h0.N⟩
 ·have e:Q.life=P.life:=by rw [hq]
  rw [hlife,e];exact h.up.life
 ·rw [hca];refine ⟨h0.y.core.kv,h0.y.core.rng,fun x hx hc m hm hmp=>?_,fun q hq=>(by cases hq),fun m m1 m2=>.inr (.inr (hst m m1 m2))⟩;obtain ⟨k,s,e,k1,-⟩:=h0.y.core.rng x hx;exact hst m (by omega) hmp
structure RestR (P:Pgr) (A:Ab) (t N:Nat) (B:Int→By):Prop where
 u:Uz P A.C N B
 hN:A.H.pages≤N
 hNt:N≤t+1
 hB:∀ m:Nat,1≤m→m<A.H.pages→B m=A.C m
 hb:P.busy=false
 sv:P.saves=[]
 nt:P.notes=none
 S:A.S=[]
 base:∀ m:Nat,1≤m→m<P.head.pages→m<P.base
theorem Rz.rest {P:Pgr} {A:Ab} {t:Nat} (h:Rz P A t) (hb:A.busy=false):∃ N B,RestR P A t N B:=by
 obtain ⟨N,B,u,sv,hN,hNt,hB⟩:=h.pg;have enow:A.now=A.H:=by unfold Ab.now;rw [hb];rfl
 have epgs:A.pgs=A.C:=by unfold Ab.pgs;rw [hb];rfl
 rw [enow] at hN hB;rw [epgs] at hB;obtain ⟨i1,i2,i3⟩:=h.idle hb
 exact ⟨N,B,u,hN,hNt,hB,h.busy.trans hb,i2,i3,i1,fun m m1 m2=>by
  rw [h.head] at m2;rcases h.bse with e | ⟨-,e⟩ <;> omega⟩
theorem Rz.log {P:Pgr} {A:Ab} {t:Nat} (h:Rz P A t) {fr:List Fr} (hl:P.lg=some fr):∃ its mk,LMode P A.C fr its mk:=by
 obtain ⟨N,B,u,-⟩:=h.pg;rcases u.y.md with ⟨its,hm⟩ | ⟨l,its,mk,hm⟩
 ·have:=hm.lg;rw [hl] at this;cases this
 ·have:=hm.lg;rw [hl] at this;injection this with this
  subst this;exact ⟨its,mk,hm⟩
structure CkR (P:Pgr) (A:Ab) (S:Int→By) (fr:List Fr) (B:Int→By):Prop where
 ck:CkZ P A.C S fr
 u1:Uz (P.ck S fr) A.C A.H.pages B
 u0:Uz ({ P.ck S fr with lg:=none }) A.C A.H.pages B
theorem Rz.ckr {P:Pgr} {A:Ab} {t N:Nat} {B:Int→By} (h:Rz P A t) (hr:RestR P A t N B) {fr:List Fr} (hl:P.lg=some fr) (ht:t≤74):∃ S,CkR P A S fr B:=by
 obtain ⟨its,mk,hm⟩:=h.log hl;have hmk:=hm.idle hr.hb;subst hmk;have hp:=h.hp;have hz:=hr.u.y.d;obtain ⟨S,hS⟩:=Cg hz hl hm.lz (by rw [h.head];omega) hr.base;have hon:=hS.on;have hml:=hS.ml;have hml1:P.base≤((P.ck S fr).d.now aA).length:=by rw [h.head] at hml;rcases h.bse with e | ⟨e,-⟩ <;> omega
 have hon2:∀ m:Nat,1≤m→m<P.base→aF (P.ck S fr).d m (A.C m):=fun m m1 m2=>hon m m1 (by
  rw [h.head];rcases h.bse with e | ⟨e,-⟩ <;> omega)
 have hp1:0<P.head.pages:=by rw [h.head];have:=h.hok.trunk;omega
 have hmar:P.marred=false:=hm.mar;refine ⟨S,hS,pe hr.u hr.hb hr.hN rfl hS.z hS.life (fun m m1 m2=>?_) (.inr ⟨[],[],0,rfl,hr.nt,hmar,⟨rfl,fun x hx=>absurd hx List.not_mem_nil,.inl ⟨hS.nl,rfl⟩,hS.nj,Nat.le_refl _,fun m m1 m2=>.inr ⟨rfl,hon2 m m1 m2⟩,by omega⟩,fun hx=>?_,fun _=>rfl⟩),pe hr.u hr.hb hr.hN rfl hS.z hS.life (fun m m1 m2=>?_) (.inl ⟨[],rfl,hS.nl,?_,hmar,fun m m1 m2 _=>hon2 m m1 m2,fun x hx m hxm hmb _=>?_,fun p hp=>absurd hp List.not_mem_nil,hml1,?_,fun x=>absurd x (Nat.lt_irrefl 0)⟩)⟩
 ·rw [eH (show (P.ck S fr).lg=some [] from rfl),hr.hB m m1 m2];exact .inr ⟨rfl,hon m m1 (by rw [h.head];exact m2)⟩
 ·have hx2:P.busy=true:=hx;rw [hr.hb] at hx2;cases hx2
 ·rw [aU (show ({ P.ck S fr with lg:=none }:Pgr).lg=none from rfl),hr.hB m m1 m2];exact hon m m1 (by rw [h.head];exact m2)
 ·show JZ P.base (P.head.change+1) A.C (P.ck S fr).d P.notes [];rw [hr.nt];exact iS hS.nj
 ·have hx2:x ∈ P.ca:=hx;refine ⟨(hr.u.y.calm hr.hb).1 x hx2,?_⟩;obtain ⟨k,s,e,k1,k2,k3,k4,k5⟩:=hr.u.y.core.rng x hx2;have hkm:k=m:=by omega
  subst hkm;have hmb2:k<P.base:=hmb;have hkp:k<A.H.pages:=by rcases h.bse with e | ⟨e,-⟩ <;> omega
  have:=hr.hN;rw [k3,k5 (by omega),hr.hB k k1 hkp]
 ·show ∀ s ∈ P.saves,_;rw [hr.sv];exact fun s hs=>absurd hs List.not_mem_nil
theorem Rz.checked {P:Pgr} {A:Ab} {t:Nat} (h:Rz P A t) (hb:A.busy=false) {fr:List Fr} (hl:P.lg=some fr) (ht:t≤74):∃ S,CanCk P S fr∧(P.ck S fr).d.down=false∧Rz (P.ck S fr) A (t+1):=by
 obtain ⟨N,B,hr⟩:=h.rest hb;obtain ⟨S,hS⟩:=h.ckr hr hl ht;have h0:=h.same ht;have hm:A.H.mode=2:=by
  rcases h.md with ⟨-,e⟩ | ⟨e,-⟩
  ·rw [hl] at e;cases e
  ·exact e
 have enow:A.now=A.H:=by unfold Ab.now;rw [hb];rfl
 have epgs:A.pgs=A.C:=by unfold Ab.pgs;rw [hb];rfl
 refine ⟨S,hS.ck.can,hS.ck.z.fine.up,⟨h0.head,h0.busy,h0.wrote,h0.work,h0.hok,h0.wok,h0.bse,h0.hp,h0.wp,h0.hc,h0.wc,.inr ⟨hm,rfl⟩,Nat.zero_le _,fun hx=>h0.idle hx,h0.svk,⟨A.H.pages,B,hS.u1,?_,by rw [enow];exact Nat.le_refl _,h0.hp,?_⟩,h0.t,fun hx=>?_,h0.gd⟩⟩
 ·show SvZ P.saves A.S B _;rw [hr.sv,hr.S];exact .nil
 ·rw [enow,epgs];exact hr.hB
 ·rw [hb] at hx;cases hx
def Ab.ckE (A:Ab):Int:=if A.busy then 40 else 0
theorem jy (w:World) {L:PgL} {P:Pgr} {A:Ab} {t:Nat} (h:PgIs w L P) (hs:Rz P A t) (ht:t≤74):
  Calls Tryz.prog 51 #[ai L.gp] w fun e w'=>e=.returned (.int .i64 A.ckE)∧RTo w L A (t+1) w':=by
 unfold Ab.ckE;cases hb:A.busy
 ·rw [if_neg (by decide)];cases hl:P.lg with
  | none=> refine (jC w h hs.up (hs.busy.trans hb) hl).mono ?_;rintro e w1 ⟨rfl,hB⟩;exact ⟨rfl,(RTo.refl h hs ht).post hB⟩
  | some fr=> obtain ⟨S,c1,c2,c3⟩:=hs.checked hb hl ht;refine (km S fr w h hs.up (hs.busy.trans hb) c1 c2).mono ?_;rintro e w1 ⟨rfl,hp⟩;exact ⟨rfl,_,c3,hp⟩
 ·rw [if_pos rfl];refine (jA w h hs.up (hs.busy.trans hb)).mono ?_;rintro e w1 ⟨rfl,hB⟩;exact ⟨rfl,(RTo.refl h hs ht).post hB⟩
structure ComJ (P Q:Pgr) (C:Int→By) (B:Int→By):Prop where
 can:CanCom2 P Q
 u:Uz Q.com C P.work.pages B
 e:Q.com={ P with d:=Q.com.d,ca:=Q.com.ca,head:=P.bump.work,base:=P.work.pages,work:=P.bump.work,busy:=false,wrote:=false,saves:=[],notes:=none,marred:=false,spoilt:=false }
theorem BH {P:Pgr} {C C':Int→By} {N:Nat} {B:Int→By} (u0:Uz P C N B) (hl:P.lg=none) (hh:0<P.base→P.head.Good) (hN:P.work.pages≤N) (hw:Wok P.work) (hc:P.work.change+1<1000) (hg:P.bump.work.Good) (hC:∀ m:Nat,1≤m→m<P.work.pages→C' m=B m) (hlen:∀ n,(C' n).length=232):∃ Q,ComJ P Q C' B:=by
 obtain ⟨W,hW⟩:∃ W,P.bump.work=W:=⟨_,rfl⟩;have hp1:=hw.p1;have u:Uz P.bump C N B:=u0.setWork { P.work with change:=P.work.change+1 } P.wrote;have hWp:W.pages=P.work.pages:=by rw [← hW];rfl
 have hWc:W.change=P.work.change+1:=by rw [← hW];rfl
 have hca:(P.ca.length:Int)≤P.size:=u.fit;have hs2:P.size≤256:=u.s2;have hdl:=nS P.ca
 have hnums:∀ x ∈ aK P.ca,gE x.n:=fun x hx=>by
  obtain ⟨e,he,-,rfl⟩:=dirty_mem.1 hx;obtain ⟨m,s,a,b,c,-⟩:=u.y.core.rng e he;show gE e.1;rw [a];exact bD (by omega)
 have hx:∀ e ∈ P.ca,e.2.2=true→∀ m:Nat,e.1=m→m<W.pages→fH e ∈ (aK P.ca).filter (ez P.bump.work.pages)∧bs (fH e).s=B m:=fun e he hd m hm hmp=>by
  refine ⟨List.mem_filter.2 ⟨dirty_mem.2 ⟨e,he,hd,rfl⟩,decide_eq_true (by rw [hW];show e.1<_;omega)⟩,?_⟩;obtain ⟨m',s,a,b,c,d,e5,f⟩:=u.y.core.rng e he;have:m'=m:=by omega
  subst this;show bs e.2.1=_;rw [d,aR];exact f (by omega)
 have hl':P.bump.lg=none:=hl;obtain ⟨its,hm⟩:=u.jmode hl';obtain ⟨Q,hQ⟩:=wh u hl' hh;have hQd:=hQ.eq;have hQca:Q.ca=P.ca:=by rw [hQd];rfl
 have hQw:Q.work=W:=by rw [hQd];exact hW
 have hQl:Q.lg=none:=by rw [hQd];exact hl
 have e1:Q.com1={ P with d:=Q.d,ca:=pn W.pages P.ca (aK P.ca),head:=W,base:=W.pages,work:=W,busy:=false,wrote:=false,saves:=[],notes:=none,marred:=false,spoilt:=false }:=by rw [ph,hQca];unfold Pgr.based Pgr.ended;rw [hQw,hQd];rfl
 have e2:Q.com={ P with d:=bz Q.d W.pages,ca:=pn W.pages P.ca (aK P.ca),head:=W,base:=W.pages,work:=W,busy:=false,wrote:=false,saves:=[],notes:=none,marred:=false,spoilt:=false }:=by unfold Pgr.com;rw [hQl,e1];rfl
 refine ⟨Q,⟨hg,by omega,fun _ w L v base hp ho hap=>hQ.st w L v base hp ho hap,fun hn=>(hn hl).elim,by rw [hQl,hl],by rw [hQca];exact hnums,by omega,by rw [hQca];omega,by rw [hQw,hWp];exact hw.p2,hQ.z.fine⟩,?_,?_⟩
 ·rw [← hWp];rw [← hWp] at hN hC hp1;have hT:=og hQ.z W.pages
  have hst:∀ m s,bu Q.com m s↔aF (bz Q.d W.pages) m s:=fun m s=>by
   rw [aU (show Q.com.lg=none by rw [e2];exact hl),e2]
  obtain ⟨k1,k2,k3⟩:=mi (T':=bu Q.com) u.y.core hN (fun e he hd m hm hmp=>by
   obtain ⟨a,b⟩:=hx e he hd m hm hmp;rw [hst,← b];exact hT.on m _ hmp (hQ.on (fH e) (List.mem_cons_of_mem _ a) m hm)) fun m m1 m2 hcl hs=>by
   rw [aU hl'] at hs;rw [hst];refine hT.on m _ m2 (hQ.old m _ (fun x hx2=>?_) hs);rcases List.mem_cons.1 hx2 with rfl | hx2
   ·show (0:Int)≠m;omega
   ·intro e;obtain ⟨y,hy,hyd,rfl⟩:=dirty_mem.1 (List.mem_filter.1 hx2).1;rw [hcl y hy e] at hyd;cases hyd
  have hon:∀ m:Nat,1≤m→m<W.pages→aF (bz Q.d W.pages) m (B m):=fun m m1 m2=>(hst m _).1 (k3 m m1 m2)
  have hx0:aF (bz Q.d W.pages) 0 (bh P.bump.work):=by refine hT.on 0 _ (by omega) ?_;have:=hQ.on ⟨0,aj (bh P.bump.work)⟩ (by unfold Pgr.comL;exact List.mem_cons_self) 0 rfl;rw [aR] at this;exact this
  have hml:W.pages≤((bz Q.d W.pages).now aA).length:=by
   by_cases h1:W.pages=1
   ·rw [h1] at hx0 ⊢;rw [onDisk_iff] at hx0;exact cB hx0
   ·have:=hon (W.pages - 1) (by omega) (by omega);rw [onDisk_iff] at this;have:=cB this;omega
  have hu80:=u.N;rw [e2] at k1 ⊢;refine ⟨⟨u.up.over,u.up.lost,hT.z.fine.up,?_⟩,u.s1,u.s2,⟨hT.z,k1,.inl ⟨[],hl,?_,iS ?_,rfl,fun m m1 m2 _=>?_,fun x hx m hxm hmb _=>?_,fun p hp=>(by cases hp),hml,fun s hs=>absurd hs List.not_mem_nil,fun x=>absurd x (Nat.lt_irrefl 0)⟩,rfl,by show W.pages≤80;omega,by show W.change<1000;omega,u.y.lenB,hlen,fun _=>⟨k2,rfl⟩⟩,?_,by omega⟩
  ·exact (hT.life.trans hQ.life).trans u.up.life
  ·exact ((hT.has bf ma_lo.symm).trans hQ.nl).trans hm.nl
  ·exact (hT.has aQ jn_ne).trans hQ.nj
  ·rw [hC m m1 m2];exact hon m m1 m2
  ·refine ⟨k2 x hx,?_⟩;obtain ⟨m',s,a,b,c,d,e5,f⟩:=k1.rng x hx;have:m'=m:=by omega
   subst this;have hmb':m'<W.pages:=hmb;rw [d,hC m' b hmb',f hmb']
  ·have:=(mN (aK P.ca) W.pages P.ca u.y.core.kv).2;show ((pn W.pages P.ca (aK P.ca)).length:Int)≤P.size;omega
 ·rw [hW,← hWp,e2]
def Ab.moded (A:Ab) (m:Nat):Ab:={ A with H:={ A.H with mode:=m,change:=A.H.change+1 } }
theorem yi {R:Pgr} (h:R.lost=false) (hm:R.head.mode=2):R.reop={ R with lg:=some [] }:=by unfold Pgr.reop;rw [if_pos hm];obtain ⟨a1,a2,a3,a4,a5,a6,a7,a8,a9,a10,a11,a12,a13,a14,a15,a16,a17,a18⟩:=R;simp only at h;rw [h]
structure ModR (P P1 Q:Pgr) (A:Ab) (m t:Nat):Prop where
 st:SetP P P1
 can:CanCom2 (P1.forMode m) Q
 f:Q.com.d.file bf=none
 r:Rz Q.com.reop (A.moded m) (t+1)
theorem tj {P P1:Pgr} {A:Ab} {t N m:Nat} {B:Int→By} (h:Rz P A t) (hr:RestR P A t N B) (hb:A.busy=false) (ht:t≤74) (hm:m=1∨m=2) (hst:SetP P P1) (he:P1={ P with d:=P1.d,lg:=P1.lg }) (u:Uz ({ P1 with lg:=none }) A.C A.H.pages B):∃ Q,ModR P P1 Q A m t:=by
 have h1:=h.hp;have h3:=h.hc;have hgo:=h.hok;have hhd:P1.head=A.H:=by rw [he];exact h.head
 have hbz:P1.busy=false:=by rw [he];exact hr.hb
 have hnt:P1.notes=none:=by rw [he];exact hr.nt
 have u4:Uz (P1.forMode m) A.C A.H.pages B:=(u.started hbz hnt).setWork { ({ P1 with lg:=none }:Pgr).started.work with mode:=m } false;have hwk:(P1.forMode m).work={ A.H with mode:=m }:=by rw [← hhd];rfl
 have hwb:(P1.forMode m).bump.work={ A.H with mode:=m,change:=A.H.change+1 }:=by unfold Pgr.bump;rw [hwk]
 have hgd:({ A.H with mode:=m,change:=A.H.change+1 }:He).Good:=⟨hm,hgo.pages,hgo.trunk,hgo.spare,hgo.root,hgo.both,by show A.H.change+1<_;omega⟩;obtain ⟨Q,hQ⟩:=BH (C':=A.C) u4 rfl (fun _=>by show P1.head.Good;rw [hhd];exact hgo) (by rw [hwk];exact Nat.le_refl _) (by rw [hwk];have:=qA hgo;exact ⟨this.p1,this.p2,this.t,this.s,this.st⟩) (by rw [hwk];show A.H.change+1<1000;omega) (by rw [hwb];exact hgd) (fun k k1 k2=>(hr.hB k k1 (by rw [hwk] at k2;exact k2)).symm) u.y.lenC;have eQ:=hQ.e;rw [hwb] at eQ;have uQ:=hQ.u;have hpg:(P1.forMode m).work.pages=A.H.pages:=by rw [hwk]
 rw [hpg] at uQ eQ;obtain ⟨its,hj⟩:=uQ.jmode (by rw [eQ];rfl);have hits:its=[]:=hj.jz.no (by rw [eQ]);subst hits;have hnj:Q.com.d.has aQ=false:=hj.jz.has;have hlost:Q.com.lost=false:=uQ.up.lost;have hbase:Q.com.base=A.H.pages:=by rw [eQ]
 have hp1:0<A.H.pages:=by have:=hgo.trunk;omega
 have hidle:(A.moded m).busy=false→(A.moded m).S=[]∧Q.com.saves=[]∧Q.com.notes=none:=fun _=>⟨hr.S,by rw [eQ],by rw [eQ]⟩
 have enow:(A.moded m).now=(A.moded m).H:=by unfold Ab.now;rw [show (A.moded m).busy=A.busy from rfl,hb];rfl
 have epgs:(A.moded m).pgs=A.C:=by unfold Ab.pgs;rw [show (A.moded m).busy=A.busy from rfl,hb];rfl
 have hbc:∀ {α:Prop},(A.moded m).busy=true→α:=fun hx=>by
  have:A.busy=true:=hx;rw [hb] at this;cases this
 have fin:∀ R:Pgr,(R=Q.com∧m=1)∨(R={ Q.com with lg:=some [] }∧m=2)→Uz R A.C A.H.pages B→Rz R (A.moded m) (t+1):=fun R hR uR=>by
  have hgd1:((P1.forMode m).gd,(P1.forMode m).life)=A.gd:=by show (P1.gd,P1.life)=A.gd;rw [he];exact h.gd
  have hRf:R.head=(A.moded m).H∧R.busy=false∧R.base=A.H.pages∧R.saves=[]∧R.notes=none∧aN R.lg=0∧(R.gd,R.life)=A.gd:=by
   rcases hR with ⟨rfl,-⟩ | ⟨rfl,-⟩
   ·rw [eQ];exact ⟨rfl,rfl,rfl,rfl,rfl,rfl,hgd1⟩
   ·rw [eQ];exact ⟨rfl,rfl,rfl,rfl,rfl,rfl,hgd1⟩
  obtain ⟨r1,r2,r3,r4,r5,r6,r7⟩:=hRf;refine ⟨r1,r2.trans hb.symm,hbc,hbc,hgd,hbc,.inl r3,by show A.H.pages≤_;omega,hbc,by show A.H.change+1≤_;omega,hbc,?_,by rw [r6];exact Nat.zero_le _,fun _=>⟨hr.S,r4,r5⟩,fun a ha=>?_,⟨A.H.pages,B,uR,?_,by rw [enow];exact Nat.le_refl _,by omega,?_⟩,by omega,hbc,r7⟩
  ·rcases hR with ⟨rfl,e⟩ | ⟨rfl,e⟩
   ·exact .inl ⟨e,by rw [eQ];rfl⟩
   ·exact .inr ⟨e,rfl⟩
  ·have ha2:a ∈ A.S:=ha;rw [hr.S] at ha2;exact absurd ha2 List.not_mem_nil
  ·rw [r4];show SvZ [] A.S B _;rw [hr.S];exact .nil
  ·rw [enow,epgs];exact hr.hB
 refine ⟨Q,hst,hQ.can,has_none.1 hj.nl,?_⟩;have hhm:Q.com.head.mode=m:=by rw [eQ]
 rcases hm with e | e
 ·have er:Q.com.reop=Q.com:=by unfold Pgr.reop;rw [if_neg (by omega)]
  rw [er];exact fin _ (.inl ⟨rfl,e⟩) uQ
 ·rw [yi hlost (by omega)];refine fin _ (.inr ⟨rfl,e⟩) (pe uQ (by rw [eQ]) (Nat.le_refl _) rfl uQ.y.d rfl (fun k k1 k2=>?_) (.inr ⟨[],[],0,rfl,by rw [eQ],by rw [eQ],⟨rfl,fun x hx=>absurd hx List.not_mem_nil,.inl ⟨hj.nl,rfl⟩,hnj,Nat.le_refl _,fun k k1 k2=>.inr ⟨rfl,hj.main k k1 k2 List.not_mem_nil⟩,?_⟩,fun hx=>?_,fun _=>rfl⟩))
  ·rw [eH (show ({ Q.com with lg:=some [] }:Pgr).lg=some [] from rfl),hr.hB k k1 k2];exact .inr ⟨rfl,hj.main k k1 (by rw [hbase];exact k2) List.not_mem_nil⟩
  ·have:=hj.ml;rw [hbase] at this;show 0<(Q.com.d.now aA).length;omega
  ·have hx2:Q.com.busy=true:=hx;rw [eQ] at hx2;cases hx2
theorem Rz.moded {P:Pgr} {A:Ab} {t m:Nat} (h:Rz P A t) (hb:A.busy=false) (ht:t≤74) (hm:m=1∨m=2):∃ P1 Q,ModR P P1 Q A m t:=by
 obtain ⟨N,B,hr⟩:=h.rest hb;cases hl:P.lg with
 | none=>
   obtain ⟨its,hj⟩:=hr.u.jmode hl;have e0:({ P with lg:=none }:Pgr)=P:=by obtain ⟨a1,a2,a3,a4,a5,a6,a7,a8,a9,a10,a11,a12,a13,a14,a15,a16,a17,a18⟩:=P;simp only at hl;rw [hl]
   obtain ⟨Q,hQ⟩:=tj h hr hb ht hm (.none hl (has_none.1 hj.nl)) rfl (by rw [e0];exact hr.u.less hr.hN);exact ⟨P,Q,hQ⟩
 | some fr=> obtain ⟨S,hS⟩:=h.ckr hr hl ht;obtain ⟨Q,hQ⟩:=tj h hr hb ht hm (.some S fr hS.ck.can) rfl hS.u0;exact ⟨_,Q,hQ⟩
def Ab.modE (A:Ab) (n:Int):Int:=if A.busy then 40 else if n≠1∧n≠2 then 1 else 0
def Ab.modA (A:Ab) (n:Int):Ab:=if A.busy then A else if n≠1∧n≠2 then A else if n=(A.H.mode:Int) then A else A.moded n.toNat
theorem kW (n:Int) (w:World) {L:PgL} {P:Pgr} {A:Ab} {t:Nat} (h:PgIs w L P) (hs:Rz P A t) (ht:t≤74):
  Calls Tryz.prog 14 #[ai L.gp,.int .i64 n] w fun e w'=>e=.returned (.int .i64 (A.modE n))∧RTo w L (A.modA n) (t+1) w':=by
 unfold Ab.modE Ab.modA;cases hb:A.busy
 ·simp only [Bool.false_eq_true,if_false];have hbP:=hs.busy.trans hb;by_cases hn:n≠1∧n≠2
  ·rw [if_pos hn,if_pos hn];refine (rO n hn w h hs.up hbP).mono ?_;rintro e w1 ⟨rfl,hB⟩;exact ⟨rfl,(RTo.refl h hs ht).post hB⟩
  ·rw [if_neg hn,if_neg hn];obtain ⟨m,rfl,hm⟩:∃ m:Nat,n=m∧(m=1∨m=2):=⟨n.toNat,by omega,by omega⟩;by_cases he:(m:Int)=(A.H.mode:Int)
   ·rw [if_pos he];refine (rP m hm w h hs.up hbP (by rw [hs.head];omega)).mono ?_;rintro e w1 ⟨rfl,hB⟩;exact ⟨rfl,(RTo.refl h hs ht).post hB⟩
   ·rw [if_neg he,Int.toNat_natCast];obtain ⟨P1,Q,hQ⟩:=hs.moded hb ht hm;refine (uq m hm w h hs.up hbP (by rw [hs.head];omega) hQ.st hQ.can hQ.f).mono ?_;rintro e w1 ⟨rfl,hp⟩;exact ⟨rfl,_,hQ.r,hp⟩
 ·rw [if_pos rfl,if_pos rfl];refine (rQ n w h hs.up (hs.busy.trans hb)).mono ?_;rintro e w1 ⟨rfl,hB⟩;exact ⟨rfl,(RTo.refl h hs ht).post hB⟩
end Go.Proofs.YtdmhbgpejppbkaaGreat
