/- The plain law of commit: what stands behind it. -/
import Derived.Test.YtdmhbgpejppbkaaGreatXGbm
namespace Go.Proofs.YtdmhbgpejppbkaaGreat
open Go.RowKit Go.Maps
theorem mi {T T':Nat→By→Prop} {ca:List On} {B:Int→By} {N p:Nat} (hc:Cz T ca B N []) (hp:p≤N)
  (hd:∀ e ∈ ca,e.2.2=true→∀ m:Nat,e.1=m→m<p→T' m (B m)) (hk:∀ m:Nat,1≤m→m<p→(∀ e ∈ ca,e.1=m→e.2.2=false)→T m (B m)→T' m (B m)):
  Cz T' (pn p ca (aK ca)) B p []∧(∀ y ∈ pn p ca (aK ca),y.2.2=false)∧∀ m:Nat,1≤m→m<p→T' m (B m):=by
 have hall:∀ m:Nat,1≤m→m<p→T' m (B m):=fun m m1 m2=>by
  by_cases hx:∃ e ∈ ca,e.1=(m:Int)∧e.2.2=true
  ·obtain ⟨e,he,e1,e2⟩:=hx;exact hd e he e2 m e1 m2
  ·have hcl:∀ e ∈ ca,e.1=m→e.2.2=false:=fun e he e1=>by
    cases h2:e.2.2
    ·rfl
    ·exact (hx ⟨e,he,e1,h2⟩).elim
   refine hk m m1 m2 hcl ?_;rcases hc.all m m1 (by omega) with ⟨e,he,e1⟩ | ⟨q,hq,-⟩ | hs
   ·exact hc.cln e he (hcl e he e1) m e1 (by omega)
   ·cases hq
   ·exact hs
 have hclean:∀ y ∈ pn p ca (aK ca),y.2.2=false:=fun y hy=>by
  obtain ⟨x,hx,e1,e2,e3,e4⟩:=om _ _ _ y hy;cases h2:y.2.2
  ·rfl
  ·obtain ⟨d1,d2⟩:=e3 h2;exact (d2 (fH x) (dirty_mem.2 ⟨x,hx,d1,rfl⟩) rfl).elim
 refine ⟨⟨(mN _ _ _ hc.kv).1,fun y hy=>?_,fun y hy hcy m hm hmp=>?_,fun q hq=>(by cases hq),fun m m1 m2=>.inr (.inr (hall m m1 m2))⟩,hclean,hall⟩
 ·obtain ⟨x,hx,e1,e2,-,-⟩:=om _ _ _ y hy;obtain ⟨m,s,a,b,c,d,e,f⟩:=hc.rng x hx;exact ⟨m,s,e1.trans a,b,c,e2.trans d,e,fun hm=>f (by omega)⟩
 ·obtain ⟨x,hx,e1,-⟩:=om _ _ _ y hy;obtain ⟨m',s,a,b,-⟩:=hc.rng x hx;exact hall m (by omega) hmp
structure ComL (P:Pgr):Prop where
 ok:∀ x ∈ P.comL,qU x
 nd:(P.comL.map (·.n)).Nodup
 len:P.comL.length≤80
theorem pf {P:Pgr} {C:Int→By} {N:Nat} {B:Int→By} (h:Uz P C N B):ComL P:=by
 have hds:∀ x ∈ (aK P.ca).filter (ez P.work.pages),qU x∧1≤x.n:=fun x hx=>by
  obtain ⟨e,he,-,rfl⟩:=dirty_mem.1 (List.mem_filter.1 hx).1;obtain ⟨m,s,a,b,c,d,e',f⟩:=h.y.core.rng e he;exact ⟨⟨m,s,a,c,d,e'⟩,by show 1≤e.1;omega⟩
 have hnd:(P.comL.map (·.n)).Nodup:=by unfold Pgr.comL;rw [List.map_cons,List.nodup_cons];refine ⟨fun hm=>?_,(tK h.y.core.kv).sublist (List.filter_sublist.map _)⟩;obtain ⟨x,hx,e⟩:=List.mem_map.1 hm;have:=(hds x hx).2;have e2:x.n=0:=e;omega
 have hok:∀ x ∈ P.comL,qU x:=fun x hx=>by
  rcases List.mem_cons.1 hx with rfl | hx
  ·exact ⟨0,bh P.work,rfl,by omega,rfl,eW _⟩
  ·exact (hds x hx).1
 refine ⟨hok,hnd,?_⟩
 have:=gP (K:=P.comL.map (·.n)) (L:=(List.range 80).map fun i=>((i:Nat):Int)) hnd fun k hk=>by
  obtain ⟨x,hx,rfl⟩:=List.mem_map.1 hk;obtain ⟨n,s,e,hn,-⟩:=hok x hx;rw [e];exact List.mem_map.2 ⟨n,List.mem_range.2 hn,rfl⟩
 rwa [List.length_map,List.length_map,List.length_range] at this
structure MainZ (P Q:Pgr) (l:List Pg):Prop where
 st:∀ (w:World) (L:PgL) (v:Value) (base:Nat),PgIs w L P→Own Pg.cells 2 134 base w v l→(∀ k,v.ownBlock=some k→¬ L.F k∧k<w.heap.size)→Calls Tryz.prog 113 #[ai L.gp,v] w fun e w'=>e=.returned (.int .i64 0)∧PTo w L Q w'
 eq:Q={ P with d:=Q.d,notes:=Q.notes,marred:=true }
 z:Dz Q.d
 nj:Q.d.has aQ=false
 nl:Q.d.has bf=P.d.has bf
 on:∀ x ∈ l,∀ n:Nat,x.n=n→aF Q.d n (bs x.s)
 old:∀ (m:Nat) t,(∀ x ∈ l,x.n≠(m:Int))→aF P.d m t→aF Q.d m t
 life:Q.d.life=P.d.life
theorem qn {P R:Pgr} {l:List Pg} (hR:R={ P with d:=R.d,notes:=R.notes,marred:=true }) (hnow:∀ m,m≠aQ→R.d.now m=P.d.now m) (hhas:∀ m,m≠aQ→R.d.has m=P.d.has m) (hlife:R.d.life=P.d.life) (hL:LaysZ R l)
  (st:∀ (w:World) (L:PgL) (v:Value) (base:Nat),PgIs w L P→Own Pg.cells 2 134 base w v l→(∀ k,v.ownBlock=some k→¬ L.F k∧k<w.heap.size)→Calls Tryz.prog 113 #[ai L.gp,v] w fun e w'=>e=.returned (.int .i64 0)∧PTo w L { R.lays l with d:=((R.lays l).d.setF aA Fi.settle).del aQ } w'):
  MainZ P { R.lays l with d:=((R.lays l).d.setF aA Fi.settle).del aQ } l:=by
 obtain ⟨d1,hd1⟩:∃ d1,(R.lays l).d=d1:=⟨_,rfl⟩;have hz1:Dz d1:=by rw [← hd1];exact hL.z
 have hz2:=hz1.settle (n:=aA) (by simp);have hnm:∀ m,m≠aQ→((d1.setF aA Fi.settle).del aQ).now m=d1.now m:=fun m hm=>by rw [gL hz2.ok,if_neg hm,bG hz1.ok]
 have hon:∀ (m:Nat) t,aF ((d1.setF aA Fi.settle).del aQ) m t↔aF d1 m t:=fun m t=>by rw [onDisk_iff,onDisk_iff,hnm aA jn_ne.symm]
 have hPR:∀ (m:Nat) t,aF P.d m t→aF R.d m t:=fun m t ho=>by rw [onDisk_iff] at ho ⊢;rw [hnow aA jn_ne.symm];exact ho
 have heq:=hL.eq;refine ⟨st,?_,?_,?_,?_,fun x hx n hn=>?_,fun m t hm ho=>?_,?_⟩
 ·rw [heq];generalize (R.lays l).d=d9;rw [hR]
 ·show Dz (((R.lays l).d.setF aA Fi.settle).del aQ);rw [hd1];exact hz2.del _
 ·show (((R.lays l).d.setF aA Fi.settle).del aQ).has aQ=false;rw [hd1,eK hz2.ok,if_pos rfl]
 ·show (((R.lays l).d.setF aA Fi.settle).del aQ).has bf=_;rw [hd1,eK hz2.ok,if_neg jn_lo.symm,cQ hz1.ok,decide_eq_false ma_lo.symm,Bool.false_or,← hd1,hL.has bf ma_lo.symm];exact hhas bf jn_lo.symm
 ·show aF (((R.lays l).d.setF aA Fi.settle).del aQ) n (bs x.s);rw [hd1,hon,← hd1];exact hL.on x hx n hn
 ·show aF (((R.lays l).d.setF aA Fi.settle).del aQ) m t;rw [hd1,hon,← hd1];exact hL.old m t hm (hPR m t ho)
 ·show (R.lays l).d.life=_;rw [hL.life,hlife]
theorem wh {P:Pgr} {C:Int→By} {N:Nat} {B:Int→By} (h:Uz P C N B) (hl:P.lg=none) (hg:0<P.base→P.head.Good):∃ Q,MainZ P Q P.comL:=by
 obtain ⟨its,hm⟩:=h.jmode hl;have hCL:=pf h;have hz:=h.y.d;have hch:=h.y.ch;have hx0:(⟨0,aj (bh P.work)⟩:Pg) ∈ P.comL:=by unfold Pgr.comL;exact List.mem_cons_self
 have hlen:=hCL.len
 have hj0:P.notes=none→P.d.file aQ=none:=fun hn=>by
  have e:=hm.jz.no hn;have:=hm.jz.has;rw [e] at this;exact has_none.1 this
 by_cases hb:P.base=0
 ·obtain ⟨d',j',its',hS⟩:=hm.sealed hz h.y.base;have hL:=sj P.comL P.sealed (by rw [hS.e];exact hS.z) hCL.ok hCL.nd;have hf0:=hL.on _ hx0 0 rfl;refine ⟨P.main0 P.comL,qn (R:=P.sealed) (by rw [hS.e]) (fun m hm=>by rw [hS.e];exact hS.now m hm) (fun m hm=>by rw [hS.e];exact hS.has m hm) (by rw [hS.e];exact hS.life) hL fun w L v base hp ho hx=>?_⟩;obtain ⟨f,hf,-⟩:=hf0;exact kP P.comL v w hp ⟨hb,hj0,by omega,hS.cs,hL.can,hL.z.fine,⟨f,hf⟩,by omega⟩ (ho.sl Pg.len) hx
 ·have hb0:0<P.base:=by omega
  obtain ⟨j,hj,hj2,hj3,hj4⟩:=la P;have hJ:JZ P.base (P.head.change+1) C P.d (some j) its:=by
   cases hn:P.notes with
   | none=> rw [hj4 hn];have:=hm.jz;rw [hn] at this;exact this.start
   | some x=> rw [hj3 x hn,← hn];exact hm.jz
  obtain ⟨y1,y2,y3,y4,y5,y7,y6⟩:=hJ.yes j rfl;obtain ⟨l1,l2,l3⟩:=hJ.len h.y.base;have hal:(aW its).all.length=(aW its).su.length+(aW its).lo.length:=by unfold JS.all;rw [List.length_append]
  have ht:=hz.total;have hfw:=hz.few;have hcn:CanNote P.d j 0:=⟨hz.fine,fun _=>by omega,by rw [hz.room];omega,by omega,by omega,by omega⟩;have hpre:P.pre={ P with d:=j.noteD P.d 0 (bh P.head),notes:=some (j.noteJ 0) }:=by rw [rv hj,hj2]
  have hN:∃ its1,JZ P.base (P.head.change+1) C (j.noteD P.d 0 (bh P.head)) (some (j.noteJ 0)) its1∧Dz (j.noteD P.d 0 (bh P.head))∧(∀ m,m≠aQ→(j.noteD P.d 0 (bh P.head)).now m=P.d.now m)∧∀ m,m≠aQ→(j.noteD P.d 0 (bh P.head)).has m=P.d.has m:=by
   cases hh:j.has 0
   ·have:=hJ.note hz h.y.base hb0 (s:=bh P.head) (eW _) hh fun x=>by omega
    exact ⟨_,this.jz,this.z,this.now,this.has⟩
   ·have e1:j.noteD P.d 0 (bh P.head)=P.d:=by unfold Jn.noteD;rw [hh];rfl
    have e2:j.noteJ 0=j:=by unfold Jn.noteJ;rw [hh];rfl
    rw [e1,e2];exact ⟨its,hJ,hz,fun _ _=>rfl,fun _ _=>rfl⟩
  obtain ⟨its1,n1,n2,n3,n4⟩:=hN;have hS:=n1.seal n2 h.y.base;have hpn:P.pre.notes=some (j.noteJ 0):=by rw [hpre]
  have hse:P.pre.sealed={ P with d:=(j.noteJ 0).sealD (j.noteD P.d 0 (bh P.head)),notes:=some (j.noteJ 0).sealJ,marred:=true }:=by rw [sX hpn,hpre]
  have hL:=sj P.comL P.pre.sealed (by rw [hse];exact hS.z) hCL.ok hCL.nd;have hf0:=hL.on _ hx0 0 rfl;refine ⟨P.main1 P.comL,qn (R:=P.pre.sealed) (by rw [hse]) (fun m hm=>by rw [hse];exact (hS.now m hm).trans (n3 m hm)) (fun m hm=>by rw [hse];exact (hS.has m hm).trans (n4 m hm)) (by rw [hse];exact (jW _ _).trans (ip _ _ _ _)) hL fun w L v base hp ho hx=>?_⟩;obtain ⟨f,hf,-⟩:=hf0;refine rz P.comL v w hp ⟨hb0,hg hb0,hj0,by omega,fun x hx=>?_,fun x hx=>?_,hL.can,hL.z.fine,⟨f,hf⟩,by omega⟩ (ho.sl Pg.len) hx
  ·rw [hj] at hx;injection hx with hx
   subst hx;rw [hj2];exact hcn
  ·rw [hpn] at hx;injection hx with hx
   subst hx;rw [hpre];exact hS.can
structure LogZ (P Q:Pgr) (ps:List Pg) (base mk:Nat) (C:Int→By) (its:List Ft):Prop where
 st:∀ (w:World) (L:PgL) (v:Value) (base:Nat),PgIs w L P→Own Pg.cells 2 134 base w v P.comL→Calls Tryz.prog 112 #[ai L.gp,v] w fun e w'=>e=.returned (.int .i64 0)∧PTo w L Q w'
 eq:Q={ P with d:=Q.d,lg:=Q.lg }
 z:Dz Q.d
 lz:∃ fr,Q.lg=some fr∧LZ base C Q.d fr (its ++ bS ps) mk
 now:∀ m,m≠bf→Q.d.now m=P.d.now m
 life:Q.d.life=P.d.life
theorem Bv {P:Pgr} {C:Int→By} {N:Nat} {B:Int→By} (h:Uz P C N B) {fr:List Fr} {its:List Ft} {mk:Nat} (hl:P.lg=some fr) (hz:LZ P.base C P.d fr its mk) (hn:its.length≤14400):∃ Q,LogZ P Q ((aK P.ca).filter (ez P.work.pages) ++ [⟨0,aj (bh P.work)⟩]) P.base mk C its:=by
 have hCL:=pf h;obtain ⟨ps,hps⟩:∃ ps,(aK P.ca).filter (ez P.work.pages) ++ [(⟨0,aj (bh P.work)⟩:Pg)]=ps:=⟨_,rfl⟩
 have hmem:∀ x ∈ ps,x ∈ P.comL:=fun x hx=>by
  rw [← hps] at hx;unfold Pgr.comL;rcases List.mem_append.1 hx with hx | hx
  ·exact List.mem_cons_of_mem _ hx
  ·rw [List.mem_singleton.1 hx];exact List.mem_cons_self
 have hpl:ps.length=P.comL.length:=by rw [← hps];unfold Pgr.comL;rw [List.length_append,List.length_cons];rfl
 have hlen:=hCL.len;have hA:=xF ps P fr its h.y.d hl hz (by omega) fun x hx=>hCL.ok x (hmem x hx)
 obtain ⟨fr',f1,f2⟩:=hA.lz;have hzA:=hA.z;have hhas:(P.adds ps).d.has bf=true:=by
  rcases f2.now with ⟨-,e⟩ | ⟨e,-⟩
  ·have:=congrArg List.length e;rw [List.length_append] at this;unfold bS at this;rw [List.length_map,hpl] at this;have h1:P.comL.length=((aK P.ca).filter (ez P.work.pages)).length+1:=by unfold Pgr.comL;rw [List.length_cons]
   simp only [List.length_nil] at this;omega
  ·exact e
 obtain ⟨f,hf,-⟩:=ce hhas;refine ⟨P.logd ps,fun w L v base hp ho=>?_,?_,hzA.settle (by simp),⟨fr',f1,?_⟩,fun m hm=>?_,hA.life⟩
 ·have:=rF ⟨0,aj (bh P.work)⟩ ((aK P.ca).filter (ez P.work.pages)) v w hp (by rw [hps];exact ⟨hA.can,hzA.fine,⟨f,hf⟩,⟨fr',f1⟩,by omega⟩) ho;rw [hps] at this;exact this
 ·unfold Pgr.logd;have e:=hA.eq;generalize P.adds ps=R at *;rw [e]
 ·rw [hps];show LZ P.base C ((P.adds ps).d.setF bf Fi.settle) fr' (its ++ bS ps) mk;have hnow:∀ m,((P.adds ps).d.setF bf Fi.settle).now m=(P.adds ps).d.now m:=fun m=>bG hzA.ok
  have hh:∀ m,((P.adds ps).d.setF bf Fi.settle).has m=(P.adds ps).d.has m:=fun m=>by
   rw [cQ hzA.ok];by_cases e:m=bf
   ·rw [decide_eq_true e,e,hhas];rfl
   ·rw [decide_eq_false e];rfl
  refine ⟨f2.fr,f2.ok,by rw [hh,hnow];exact f2.now,by rw [hh];exact f2.nj,f2.top,fun m m1 m2=>?_,by rw [hnow];exact f2.ml⟩;rw [onDisk_iff,hnow,← onDisk_iff];exact f2.com m m1 m2
 ·show ((P.adds ps).d.setF bf Fi.settle).now m=_;rw [bG hzA.ok];exact hA.now m hm
end Go.Proofs.YtdmhbgpejppbkaaGreat
