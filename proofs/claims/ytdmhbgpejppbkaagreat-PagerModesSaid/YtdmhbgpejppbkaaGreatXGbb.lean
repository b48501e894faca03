/- The plain law of a pager's pages: a page fetched, a page changed, savepoints. A pager's pages behind calls, with blocks of the caller's own apart from them; inner.Get, inner.Put. A shelf's book: numbers to pages. spare.trunk, spare.lay over a shelf's book. -/
import Derived.Test.YtdmhbgpejppbkaaGreatXGba
import Derived.Test.YtdmhbgpejppbkaaGreatXGag
import Derived.Test.YtdmhbgpejppbkaaGreatXGaj
import Derived.Maps.OwnOps
import Derived.Maps.Views
import Derived.Maps.OwnSet
set_option maxRecDepth 100000
set_option maxHeartbeats 2000000
namespace Go.Proofs.YtdmhbgpejppbkaaGreat
open Go.RowKit
theorem mL:∀ {L:List On},(L.map (·.1)).Nodup→∀ {x y:On},x ∈ L→y ∈ L→x.1=y.1→x=y
 | [],_,_,_,hx,_,_=>by cases hx
 | z :: L,hn,x,y,hx,hy,e=>by
   rw [List.map_cons,List.nodup_cons] at hn;rcases List.mem_cons.1 hx with rfl | hx' <;> rcases List.mem_cons.1 hy with rfl | hy'
   ·rfl
   ·exact (hn.1 (List.mem_map.2 ⟨y,hy',e.symm⟩)).elim
   ·exact (hn.1 (List.mem_map.2 ⟨x,hx',e⟩)).elim
   ·exact mL hn.2 hx' hy' e
theorem yy {a b:By} (h:aj a=aj b):a=b:=by rw [← aR a,h,aR]
theorem JMode.stored {P:Pgr} {C:Int→By} {lost:List Pg} {its:List It} (h:JMode P C lost its) {n:Nat} (h1:1≤n) (hb:n<P.base) (hh:P.hasN n=false):aF P.d n (C n):=by
 refine h.main n h1 hb fun hc=>?_
 rw [h.has,decide_eq_false_iff_not] at hh;refine hh ?_;unfold JS.all;rw [List.map_append];exact List.mem_append_left _ hc
theorem Uz.jmode {P:Pgr} {C:Int→By} {N:Nat} {B:Int→By} (h:Uz P C N B) (hl:P.lg=none):∃ its,JMode P C [] its:=by
 rcases h.y.md with h | ⟨l,its,mk,h⟩
 ·exact h
 ·rw [h.lg] at hl;cases hl
theorem Uz.same_c {P:Pgr} {C:Int→By} {N:Nat} {B:Int→By} (h:Uz P C N B) (hl:P.lg=none) {n:Nat} (h1:1≤n) (hb:n<P.base) (hh:P.hasN n=false) (hn:n<N):B n=C n:=by
 obtain ⟨its,hm⟩:=h.jmode hl;rcases h.y.core.all n h1 hn with ⟨x,hx,hxn⟩ | ⟨p,hp,-⟩ | hs
 ·obtain ⟨m,t,e1,e2,e3,e4,e5,e6⟩:=h.y.core.rng x hx;have hmn:m=n:=by omega
  subst hmn;rw [← e6 hn];exact yy (e4.symm.trans (hm.ca x hx m hxn hb hh).2)
 ·cases hp
 ·rw [aU hl,onDisk_iff] at hs;have:=hm.stored h1 hb hh;rw [onDisk_iff,hs] at this;injection this with this
  exact ub (h.y.lenB _) (h.y.lenC _) this
structure FetchZ (P:Pgr) (C:Int→By) (N:Nat) (B:Int→By) (n:Nat) (s:By):Prop where
 can:CanFetch P n s
 u:Uz (P.fetch n s) C N B
 same:P.SameW (P.fetch n s)
 lg:aN (P.fetch n s).lg≤aN P.lg+1
 hn:∀ m,(P.fetch n s).hasN m=P.hasN m
theorem oX {P:Pgr} {C:Int→By} {N:Nat} {B:Int→By} {n:Nat} {s:By} (h:Uz P C N B) (hfew:aN P.lg<14500) (h1:1≤n) (hn:n<80)
  (hs:(n<N∧s=B n)∨(P.lg=none∧n<P.base∧P.hasN n=false∧s=C n)):FetchZ P C N B n s:=by
 have hsl:s.length=232:=by
  rcases hs with ⟨-,rfl⟩ | ⟨-,-,-,rfl⟩
  ·exact h.y.lenB _
  ·exact h.y.lenC _
 have hBs:n<N→s=B n:=fun hN=>by
  rcases hs with ⟨-,e⟩ | ⟨a,b,c,e⟩
  ·exact e
  ·rw [e,h.same_c a h1 b c hN]
 cases hr:(eB (n:Int) P.ca).2
 ·have hno:∀ x ∈ P.ca,x.1≠(n:Int):=fun x hx e=>by
   unfold eB at hr;cases hf:P.ca.find? (fun x=>x.1 == (n:Int)) with
   | some y=>rw [hf] at hr;cases hr
   | none=> have:=List.find?_eq_none.1 hf x hx;simp [e] at this
  have hon:bu P n s:=by
   rcases hs with ⟨hN,e⟩ | ⟨a,b,c,e⟩
   ·rcases h.y.core.all n h1 hN with ⟨x,hx,e⟩ | ⟨p,hp,-⟩ | ho
    ·exact (hno x hx e).elim
    ·cases hp
    ·rw [e];exact ho
   ·obtain ⟨its,hm⟩:=h.jmode a;rw [aU a,e];exact hm.stored h1 b c
  have hh:=oV (s:=s) (dt:=false) h hfew h1 hn (.inl rfl) h.N hsl (.inr fun _=>hon) (fun x=>by cases x) fun a b c=>⟨rfl,by
   rcases hs with ⟨hN,e⟩ | ⟨-,-,-,e⟩
   ·rw [e];exact h.same_c a h1 b c hN
   ·exact e⟩
  have e:P.fetch n s=P.hold n s false:=by unfold Pgr.fetch;rw [hr];rfl
  rw [show FetchZ P C N B n s↔FetchZ P C N B n s from Iff.rfl];refine ⟨⟨h.y.d.fine,by omega,hsl,fun x=>(by rw [hr] at x;cases x),fun _=>⟨hon,Nat.le_trans hh.few (by omega),hh.can⟩⟩,?_,by rw [e];exact hh.same,by rw [e];exact hh.lg,by rw [e];exact hh.hn⟩;rw [e];refine hh.u.congr (fun m hm=>?_) h.y.lenB;unfold fU
  split
  ·rename_i he
   have:m=n:=by omega
   subst this;exact (hBs hm).symm
  ·rfl
 ·have e:P.fetch n s={ P with ca:=kp (n:Int) P.ca }:=by unfold Pgr.fetch;rw [hr];rfl
  obtain ⟨x,hf⟩:∃ x,P.ca.find? (fun x=>x.1 == (n:Int))=some x:=by
   unfold eB at hr;cases hf:P.ca.find? (fun x=>x.1 == (n:Int)) with
   | some y=>exact ⟨y,rfl⟩
   | none=>rw [hf] at hr;cases hr
  have hx:=List.mem_of_find?_eq_some hf;have hxn:x.1=(n:Int):=by have:=List.find?_some hf;simpa using this
  have hxs:x.2.1=aj s:=by
   rcases hs with ⟨hN,e⟩ | ⟨a,b,c,e⟩
   ·obtain ⟨m,t,e1,e2,e3,e4,e5,e6⟩:=h.y.core.rng x hx;have:m=n:=by omega
    subst this;rw [e4,e6 hN,e]
   ·obtain ⟨its,hm⟩:=h.jmode a;rw [e];exact (hm.ca x hx n hxn b c).2
  have hgr:(eB (n:Int) P.ca).1=aj s:=by unfold eB;rw [hf];exact hxs
  have hgl:kp (n:Int) P.ca=without (n:Int) P.ca ++ [x]:=by unfold kp;rw [hf]
  have hmem:∀ y,y ∈ without (n:Int) P.ca ++ [x]↔y ∈ P.ca:=fun y=>by
   rw [List.mem_append,vmem_without,List.mem_singleton];constructor
   ·rintro (⟨hy,-⟩ | rfl)
    ·exact hy
    ·exact hx
   ·intro hy;by_cases e:y.1=(n:Int)
    ·have:=mL h.y.core.kv hy hx (e.trans hxn.symm);exact .inr this
    ·exact .inl ⟨hy,e⟩
  have hlen:(without (n:Int) P.ca ++ [x]).length≤P.ca.length:=by
   have h2:(without (n:Int) P.ca).length<P.ca.length:=by unfold without;refine List.length_filter_lt_length_iff_exists.2 ⟨x,hx,by simp [hxn]⟩
   rw [List.length_append];simp only [List.length_cons,List.length_nil];omega
  have hnd:((without (n:Int) P.ca ++ [x]).map (·.1)).Nodup:=by obtain ⟨xa,xb⟩:=x;simp only at hxn;rw [hxn];exact pq h.y.core.kv xb
  have hY:=h.y;refine ⟨⟨hY.d.fine,by omega,hsl,fun _=>hgr,fun y=>(by rw [hr] at y;cases y)⟩,?_,by rw [e];exact ⟨rfl,rfl,rfl⟩,by rw [e];exact Nat.le_succ _,fun m=>by rw [e];rfl⟩;rw [e,hgl];refine ⟨⟨h.up.over,h.up.lost,h.up.down,h.up.life⟩,h.s1,h.s2,⟨hY.d,⟨hnd,fun y hy=>hY.core.rng y ((hmem y).1 hy),fun y hy=>hY.core.cln y ((hmem y).1 hy),fun p hp=>(by cases hp),fun k k1 k2=>?_⟩,?_,hY.sp,hY.base,hY.ch,hY.lenB,hY.lenC,fun hb=>⟨fun y hy=>(hY.calm hb).1 y ((hmem y).1 hy),rfl⟩⟩,?_,h.N⟩
  ·rcases hY.core.all k k1 k2 with ⟨y,hy,e⟩ | h3 | h3
   ·exact .inl ⟨y,(hmem y).2 hy,e⟩
   ·exact .inr (.inl h3)
   ·exact .inr (.inr h3)
  ·rcases hY.md with ⟨its,hm⟩ | ⟨l,its,mk,hm⟩
   ·exact .inl ⟨its,hm.lg,hm.nl,hm.jz,hm.mar,hm.main,fun y hy=>hm.ca y ((hmem y).1 hy),hm.lost,hm.ml,hm.img,hm.mf⟩
   ·exact .inr ⟨l,its,mk,hm.lg,hm.nt,hm.mar,hm.lz,hm.mark,hm.idle⟩
  ·have:=h.fit;show ((without (n:Int) P.ca ++ [x]).length:Int)≤P.size;omega
def dM:List Sv→Nat→By→By
 | [],_,x=>x
 | s :: r,m,x=>(aC s.im (m:Int)).getD (dM r m x)
theorem cG:∀ (A D:List Sv) (m:Nat) (x:By),dM (A ++ D) m x=dM A m (dM D m x)
 | [],_,_,_=>rfl
 | s :: r,D,m,x=>by
   show (aC s.im (m:Int)).getD (dM (r ++ D) m x)=(aC s.im (m:Int)).getD _;rw [cG r]
structure SvZ (sv:List Sv) (S:List (He × (Int→By))) (B:Int→By) (N:Nat):Prop where
 len:sv.length=S.length
 at_:∀ (i:Nat) s a,sv[i]?=some s→S[i]?=some a→s.head=a.1∧∀ m:Nat,1≤m→m<s.head.pages→dM (sv.drop i) m (B m)=a.2 m
 im:∀ s ∈ sv,(s.im.map (·.1)).Nodup∧∀ p ∈ s.im,∃ m:Nat,p.1=m∧1≤m∧m<80∧p.2.length=232
 pg:∀ s ∈ sv,s.head.pages≤N
 n16:sv.length≤16
theorem SvZ.nil {B:Int→By} {N:Nat}:SvZ [] [] B N:=⟨rfl,fun _ _ _ h=>(by cases h),fun _ h=>absurd h List.not_mem_nil,fun _ h=>absurd h List.not_mem_nil,by decide⟩
theorem sx {s:Sv} (h:(s.im.map (·.1)).Nodup∧∀ p ∈ s.im,∃ m:Nat,p.1=m∧1≤m∧m<80∧p.2.length=232):s.im.length≤80:=by
 have:=gP (K:=s.im.map (·.1)) (L:=(List.range 80).map fun i=>((i:Nat):Int)) h.1 fun k hk=>by
  obtain ⟨p,hp,rfl⟩:=List.mem_map.1 hk;obtain ⟨m,e,-,h2,-⟩:=h.2 p hp;rw [e];exact List.mem_map.2 ⟨m,List.mem_range.2 h2,rfl⟩
 rwa [List.length_map,List.length_map,List.length_range] at this
theorem nC (A:List Sv) (v:Sv) (n:Nat) (s:By):ko (A ++ [v]) n s=A ++ [{ v with im:=aX v.im (n:Int) s }]:=by unfold ko;rw [List.length_append,List.length_singleton,Nat.add_sub_cancel,List.getElem?_append_right (Nat.le_refl _),Nat.sub_self];show (A ++ [v]).set A.length _=_;rw [List.set_append_right _ _ (Nat.le_refl _),Nat.sub_self];rfl
theorem wM {b:Bool} {l:List Sv} {n:Nat} {x:By} {u:Sv} (h:u ∈ (if b then ko l n x else l)):u ∈ l∨∃ v ∈ l,u.im=aX v.im (n:Int) x:=by
 cases b
 ·rw [if_neg (by decide)] at h;exact .inl h
 ·rw [if_pos rfl] at h;rcases List.eq_nil_or_concat l with rfl | ⟨A,v,rfl⟩
  ·exact .inl h
  ·rw [List.concat_eq_append] at *;rw [nC] at h;rcases List.mem_append.1 h with h | h
   ·exact .inl (List.mem_append_left _ h)
   ·exact .inr ⟨v,by simp,by rw [List.mem_singleton.1 h]⟩
theorem SvZ.change {sv:List Sv} {S:List (He × (Int→By))} {B:Int→By} {N n:Nat} {s:By} (h:SvZ sv S B N) (h1:1≤n) (hn:n<80) (hB:∀ n,(B n).length=232) {b:Bool}
  (hb:b=(!sv.isEmpty && (sv.any (iz n) && !(match sv.getLast? with | none=>false | some s=>(aC s.im (n:Int)).isSome)))):SvZ (if b then ko sv n (B n) else sv) S (fU B n s) N:=by
 rcases List.eq_nil_or_concat sv with rfl | ⟨A,v,rfl⟩
 ·have e0:b=false:=hb;rw [e0];have:S=[]:=List.length_eq_zero_iff.1 h.len.symm;subst this;exact .nil
 ·rw [List.concat_eq_append] at *;have hgl:(A ++ [v]).getLast?=some v:=by simp
  have hne:(A ++ [v]).isEmpty=false:=by cases A <;> rfl
  rw [hgl,hne] at hb;simp only [Bool.not_false,Bool.true_and] at hb;have hvi:=h.im v (by simp)
  have hdrop:∀ (u:Sv) (i:Nat),i<(A ++ [v]).length→(A ++ [u]).drop i=A.drop i ++ [u]:=fun u i hi=>by
   rw [List.length_append,List.length_singleton] at hi;rw [List.drop_append_of_le_length (by omega)]
  cases b with
  | false=>
    rw [if_neg (by decide)];refine ⟨h.len,fun i s' a hi ha=>?_,h.im,h.pg,h.n16⟩;obtain ⟨e1,e2⟩:=h.at_ i s' a hi ha;refine ⟨e1,fun m m1 m2=>?_⟩;by_cases e:m=n
    ·subst e;rw [← e2 m m1 m2];have hany:(A ++ [v]).any (iz m)=true:=List.any_eq_true.2 ⟨s',List.mem_of_getElem? hi,decide_eq_true m2⟩;rw [hany,Bool.true_and] at hb;have hsome:(aC v.im (m:Int)).isSome=true:=by simpa using hb.symm
     obtain ⟨t,ht⟩:=Option.isSome_iff_exists.1 hsome
     have hx:∀ x:By,dM ((A ++ [v]).drop i) m x=dM (A.drop i) m t:=fun x=>by
      rw [hdrop v i (cB hi),cG];show dM (A.drop i) m ((aC v.im (m:Int)).getD x)=_;rw [ht];rfl
     rw [hx,hx]
    ·rw [ji e];exact e2 m m1 m2
  | true=>
    rw [if_pos rfl,nC];have hno:aC v.im (n:Int)=none:=by
     have h3:(aC v.im (n:Int)).isSome=false:=by
      cases h4:(aC v.im (n:Int)).isSome
      ·rfl
      ·rw [h4] at hb;simp at hb
     cases h4:aC v.im (n:Int) with
     | none=>rfl
     | some t=>rw [h4] at h3;cases h3
    refine ⟨by rw [← h.len,List.length_append,List.length_append];rfl,fun i s' a hi ha=>?_,fun s' hs'=>?_,fun s' hs'=>?_,by have:=h.n16;rw [List.length_append] at this ⊢;exact this⟩
    ·have hil:i<(A ++ [v]).length:=by have:=cB hi;rw [List.length_append] at this ⊢;exact this
     obtain ⟨s0,hs0,hse⟩:∃ s0,(A ++ [v])[i]?=some s0∧s'.head=s0.head:=by
      by_cases hiA:i<A.length
      ·rw [List.getElem?_append_left hiA] at hi;exact ⟨s',by rw [List.getElem?_append_left hiA];exact hi,rfl⟩
      ·rw [List.length_append,List.length_singleton] at hil;have e:i=A.length:=by omega
       subst e;rw [List.getElem?_append_right (Nat.le_refl _),Nat.sub_self] at hi;injection hi with hi
       refine ⟨v,by rw [List.getElem?_append_right (Nat.le_refl _),Nat.sub_self];rfl,by rw [← hi]⟩
     obtain ⟨e1,e2⟩:=h.at_ i s0 a hs0 ha;refine ⟨hse.trans e1,fun m m1 m2=>?_⟩;rw [hse] at m2;have e3:=e2 m m1 m2;rw [hdrop v i hil,cG] at e3;rw [hdrop _ i hil,cG,← e3];show dM (A.drop i) m ((aC (aX v.im (n:Int) (B n)) (m:Int)).getD _)=dM (A.drop i) m ((aC v.im (m:Int)).getD _);rw [bP hvi.1];by_cases e:m=n
     ·subst e;rw [if_pos rfl,hno];rfl
     ·rw [if_neg (by omega),ji e]
    ·rcases List.mem_append.1 hs' with hs' | hs'
     ·exact h.im s' (List.mem_append_left _ hs')
     ·rw [List.mem_singleton.1 hs'];refine ⟨cU hvi.1,fun p hp=>?_⟩;rcases cy hp with e | e
      ·rw [e];exact ⟨n,rfl,h1,hn,hB _⟩
      ·exact hvi.2 p e
    ·rcases List.mem_append.1 hs' with hs' | hs'
     ·exact h.pg s' (List.mem_append_left _ hs')
     ·rw [List.mem_singleton.1 hs'];exact h.pg v (by simp)
def Pgr.SameX (P Q:Pgr):Prop:=Q={ P with d:=Q.d,ca:=Q.ca,notes:=Q.notes,marred:=Q.marred,lg:=Q.lg,saves:=Q.saves }∧Q.d.life=P.d.life∧Q.lg.isSome=P.lg.isSome
theorem Pgr.SameX.refl (P:Pgr):P.SameX P:=⟨rfl,rfl,rfl⟩
theorem Pgr.SameX.trans {P Q R:Pgr} (h:P.SameX Q) (k:Q.SameX R):P.SameX R:=by obtain ⟨h,h2,h3⟩:=h;obtain ⟨k,k2,k3⟩:=k;refine ⟨?_,k2.trans h2,k3.trans h3⟩;clear h2 h3 k2 k3;rw [k];generalize R.d=a at *;generalize R.ca=e at *;generalize R.notes=b at *;generalize R.marred=c at *;generalize R.lg=g at *;generalize R.saves=f at *;rw [h]
theorem Pgr.SameW.x {P Q:Pgr} (h:P.SameW Q):P.SameX Q:=by
 obtain ⟨h,h2,h3⟩:=h;have hc:Q.saves=P.saves:=by rw [h]
 refine ⟨?_,h2,h3⟩;rw [hc];exact h
theorem Uz.setSaves {P:Pgr} {C:Int→By} {N:Nat} {B:Int→By} (h:Uz P C N B) (sv:List Sv) (hi:P.lg=none→∀ s ∈ sv,∀ p ∈ s.im,∀ m:Nat,p.1=m→m<P.base→P.hasN m=true):Uz { P with saves:=sv } C N B:=by
 refine ⟨⟨h.up.over,h.up.lost,h.up.down,h.up.life⟩,h.s1,h.s2,⟨h.y.d,h.y.core,?_,h.y.sp,h.y.base,h.y.ch,h.y.lenB,h.y.lenC,h.y.calm⟩,h.fit,h.N⟩;rcases h.y.md with ⟨its,hm⟩ | ⟨l,its,mk,hm⟩
 ·exact .inl ⟨its,hm.lg,hm.nl,hm.jz,hm.mar,hm.main,hm.ca,hm.lost,hm.ml,hi hm.lg,hm.mf⟩
 ·exact .inr ⟨l,its,mk,hm.lg,hm.nt,hm.mar,hm.lz,hm.mark,hm.idle⟩
theorem ip (j:Jn) (d:Dk) (n:Nat) (s:By):(j.noteD d n s).life=d.life:=by unfold Jn.noteD;split <;> rfl
structure JotZ (P:Pgr) (C:Int→By) (N:Nat) (B:Int→By) (n:Nat) (s:By):Prop where
 j0:P.notes=none→P.d.file aQ=none
 can:∀ j,P.note.notes=some j→CanNote P.note.d j n
 u:Uz (P.jot n s) C N B
 same:P.SameW (P.jot n s)
 lg:(P.jot n s).lg=P.lg
 has:(P.jot n s).hasN n=true
theorem Bx {P:Pgr} {C:Int→By} {N:Nat} {B:Int→By} {n:Nat} {s:By} (h:Uz P C N B) (hl:P.lg=none) (hb:n<P.base) (hh:P.hasN n=false) (hs:s=C n):JotZ P C N B n s:=by
 obtain ⟨its,hm⟩:=h.jmode hl;obtain ⟨j,hj,hj2,hj3,hj4⟩:=la P;have hz:=h.y.d;have hJ:JZ P.base (P.head.change+1) C P.d (some j) its:=by
  cases hn:P.notes with
  | none=> rw [hj4 hn];have:=hm.jz;rw [hn] at this;exact this.start
  | some x=> rw [hj3 x hn,← hn];exact hm.jz
 have hjh:j.has n=false:=by rw [(hJ.yes j rfl).2.2.2.2.2.2 n,← hm.has];exact hh
 have hN:=hJ.note hz h.y.base hb (by rw [hs];exact h.y.lenC _) hjh fun _=>hs
 have eq:P.jot n s={ P with d:=j.noteD P.d n s,notes:=some (j.noteJ n) }:=by unfold Pgr.jot;rw [hj,hj2]
 have hall:∀ m,(P.jot n s).hasN m=decide (m ∈ (aW (its ++ [some (n,s)])).all.map (·.1)):=fun m=>by
  rw [eq];exact (hN.jz.yes _ rfl).2.2.2.2.2.2 m
 have ej:aW (its ++ [some (n,s)])={ aW its with lo:=(aW its).lo ++ [(n,s)] }:=cO _ _;have eall:(aW (its ++ [some (n,s)])).all=(aW its).all ++ [(n,s)]:=by rw [ej];show (aW its).su ++ ((aW its).lo ++ [(n,s)])=_;rw [← List.append_assoc];rfl
 have hon:∀ m t,aF (j.noteD P.d n s) m t↔aF P.d m t:=fun m t=>by rw [onDisk_iff,onDisk_iff,hN.now aA jn_ne.symm]
 have hst:bu (P.jot n s)=bu P:=funext fun m=>funext fun t=>propext (by
  rw [aU (show (P.jot n s).lg=none by rw [eq];exact hl),aU hl,eq];exact hon m t)
 refine ⟨fun hn=>?_,fun x hx=>?_,?_,by rw [eq];exact ⟨rfl,ip _ _ _ _,rfl⟩,by rw [eq],?_⟩
 ·have e:=hm.jz.no hn;have:=hm.jz.has;rw [e] at this;exact has_none.1 this
 ·rw [hj] at hx;injection hx with hx
  subst hx;rw [hj2];exact hN.can
 ·have hd:(P.jot n s).d=j.noteD P.d n s:=by rw [eq]
  refine ⟨by rw [eq];exact ⟨h.up.over,h.up.lost,hN.z.fine.up,(ip _ _ _ _).trans h.up.life⟩,by rw [eq];exact h.s1,by rw [eq];exact h.s2,⟨by rw [hd];exact hN.z,?_,.inl ⟨its ++ [some (n,s)],?_⟩,by rw [eq];exact h.y.sp,by rw [eq];exact h.y.base,by rw [eq];exact h.y.ch,h.y.lenB,h.y.lenC,by rw [eq];exact h.y.calm⟩,by rw [eq];exact h.fit,h.N⟩
  ·have hca:(P.jot n s).ca=P.ca:=by rw [eq]
   rw [hst,hca];exact h.y.core
  ·have hall2:=hall;rw [eq] at hall2 ⊢;refine ⟨hl,(hN.has bf jn_lo.symm).trans hm.nl,hN.jz,?_,fun m h1 h2 h3=>?_,fun x hx m hxm hmb hhm=>?_,fun p hp=>(by cases hp),?_,fun u hu p hp m hpm hmb=>?_,fun hf=>?_⟩
   ·rw [ej];exact hm.mar
   ·rw [ej] at h3;exact (hon m _).2 (hm.main m h1 h2 h3)
   ·refine hm.ca x hx m hxm hmb ?_;rw [hall2,eall,List.map_append,decide_eq_false_iff_not] at hhm;rw [hm.has,decide_eq_false_iff_not];exact fun hc=>hhm (List.mem_append_left _ hc)
   ·show P.base≤((j.noteD P.d n s).now aA).length;rw [hN.now aA jn_ne.symm];exact hm.ml
   ·have h3:=hm.img u hu p hp m hpm hmb;rw [hm.has,decide_eq_true_eq] at h3;rw [hall2,eall,List.map_append,decide_eq_true_eq];exact List.mem_append_left _ h3
   ·rw [ej] at hf;exact (hN.has aA jn_ne.symm).trans (hm.mf hf)
 ·rw [hall,eall,decide_eq_true_eq];simp
structure ChangeZ (P:Pgr) (C:Int→By) (N N':Nat) (B:Int→By) (S:List (He × (Int→By))) (n:Nat) (old s:By):Prop where
 can:CanChange P n old s
 u:Uz (P.change n old s) C N' (fU B n s)
 sv:SvZ (P.change n old s).saves S (fU B n s) N
 same:P.SameX (P.change n old s)
 lg:aN (P.change n old s).lg≤aN P.lg+2
theorem mm {P:Pgr} {C:Int→By} {N N':Nat} {B:Int→By} {S:List (He × (Int→By))} {n:Nat} {s:By} (h:Uz P C N B) (hsv:SvZ P.saves S B N) (hbz:P.busy=true) (hfew:aN P.lg<14400) (h1:1≤n) (hn:n<80) (hNN:N'=N∨N'=N+1∧n=N) (hN:N'≤80) (hs:s.length=232):
  ∃ old,ChangeZ P C N N' B S n old s:=by
 have hfs:P.fs n=true→n<N:=fun hf=>by
  have h2:P.any n=true:=by unfold Pgr.fs at hf;simp only [Bool.and_eq_true] at hf;exact hf.2.1
  obtain ⟨s',hs',hb⟩:=List.any_eq_true.1 h2;have h3:=of_decide_eq_true hb;have h4:=hsv.pg s' hs';omega
 have hfj:P.fj n=true→P.lg=none∧n<P.base∧P.hasN n=false:=fun hf=>by
  unfold Pgr.fj at hf;simp only [Bool.and_eq_true,decide_eq_true_eq,Bool.not_eq_true'] at hf;exact ⟨by simpa using hf.1,hf.2⟩
 obtain ⟨old,hold⟩:∃ old,(if n<N then B n else C n)=old:=⟨_,rfl⟩;have hol:old.length=232:=by rw [← hold];split;exact h.y.lenB _;exact h.y.lenC _
 refine ⟨old,?_⟩;by_cases hk:(P.fj n || P.fs n)=true
 ·have hF:=oX (s:=old) h (by omega) h1 hn (by
   by_cases hnN:n<N
   ·rw [if_pos hnN] at hold;exact .inl ⟨hnN,hold.symm⟩
   ·rw [if_neg hnN] at hold;have:P.fj n=true:=by
     cases hc:P.fj n
     ·rw [hc,Bool.false_or] at hk;exact absurd (hfs hk) hnN
     ·rfl
    obtain ⟨a,b,c⟩:=hfj this;exact .inr ⟨a,b,c,hold.symm⟩)
  obtain ⟨Q,hQ⟩:∃ Q,P.fetch n old=Q:=⟨_,rfl⟩;have hFl:=hF.lg;have hFh:=hF.hn;have hFs:=hF.same;have hFu:=hF.u;rw [hQ] at hFl hFh hFs hFu;have hQs:Q.saves=P.saves:=by rw [hFs.1]
  have hQb:Q.base=P.base:=by rw [hFs.1]
  have hQz:Q.busy=true:=by rw [hFs.1];exact hbz
  have hC:P.fj n=true→old=C n:=fun hf=>by
   obtain ⟨a,b,c⟩:=hfj hf;rw [← hold]
   split
   ·rename_i hnN;exact h.same_c a h1 b c hnN
   ·rfl
  have hJ:P.fj n=true→JotZ Q C N B n old:=fun hf=>by
   obtain ⟨a,b,c⟩:=hfj hf;exact Bx hFu (by have:=hFs.2.2;rw [a] at this;simpa using this) (by rw [hQb];exact b) (by rw [hFh];exact c) (hC hf)
  obtain ⟨R,hR⟩:∃ R,Q.jotIf (P.fj n) n old=R:=⟨_,rfl⟩;have hRu:Uz R C N B∧P.SameW R∧aN R.lg≤aN P.lg+1∧(R.lg=none→n<R.base→R.hasN n=true):=by
   rw [← hR];unfold Pgr.jotIf;cases hc:P.fj n
   ·rw [if_neg (by decide)];refine ⟨hFu,hFs,hFl,fun a b=>?_⟩;rw [hFh];have hPl:P.lg=none:=by have:=hFs.2.2;rw [a] at this;simpa using this.symm
    unfold Pgr.fj at hc;rw [hPl,decide_eq_true (hQb ▸ b)] at hc;simpa using hc
   ·rw [if_pos rfl];have:=hJ hc;exact ⟨this.u,hFs.trans this.same,by rw [this.lg];exact hFl,fun _ _=>this.has⟩
  obtain ⟨hRu,hRs,hRl,hRh⟩:=hRu;have hRsv:R.saves=P.saves:=by rw [hRs.1]
  obtain ⟨K,hK⟩:∃ K,R.imgIf (P.fs n) n old=K:=⟨_,rfl⟩;have hKk:P.keep n old=K:=by unfold Pgr.keep;rw [if_pos hk,hQ,hR,hK]
  have hKe:K={ R with saves:=if P.fs n then ko P.saves n (B n) else P.saves }:=by
   rw [← hK];unfold Pgr.imgIf;cases hc:P.fs n
   ·rw [if_neg (by decide),if_neg (by decide),← hRsv]
   ·rw [if_pos rfl,if_pos rfl,← hRsv];have:old=B n:=by rw [← hold,if_pos (hfs hc)]
    rw [this];rfl
  have hsv2:=hsv.change (s:=s) h1 hn h.y.lenB (b:=P.fs n) rfl
  have hRi:R.lg=none→∀ s ∈ (if P.fs n then ko P.saves n (B n) else P.saves),∀ p ∈ s.im,∀ m:Nat,p.1=m→m<R.base→R.hasN m=true:=fun hl u hu p hp m hpm hmb=>by
   obtain ⟨its,hm⟩:=hRu.jmode hl;have hi:=hm.img;rw [hRsv] at hi;rcases wM hu with h3 | ⟨v,hv,h3⟩
   ·exact hi u h3 p hp m hpm hmb
   ·rw [h3] at hp;rcases cy hp with e | e
    ·rw [e] at hpm;have:m=n:=by have h4:(n:Int)=m:=hpm;omega
     rw [this] at hmb ⊢;exact hRh hl hmb
    ·exact hi v hv p e m hpm hmb
  have hKu:Uz K C N B:=by rw [hKe];exact hRu.setSaves _ hRi
  have hKx:P.SameX K:=by rw [hKe];exact hRs.x.trans ⟨rfl,rfl,rfl⟩
  have hKl:K.lg=R.lg:=by rw [hKe]
  have hH:=oV (n:=n) (s:=s) (dt:=true) hKu (by rw [hKl];omega) h1 hn hNN hN hs (.inl rfl) (fun _=>by rw [hKx.1];exact hbz) fun a b c=>by
   rw [hKl] at a;have e2:K.base=R.base:=by rw [hKe]
   have e3:K.hasN n=R.hasN n:=by rw [hKe];rfl
   rw [e2] at b;rw [e3,hRh a b] at c;cases c
  have hch:P.change n old s=K.hold n s true:=by unfold Pgr.change;rw [hKk]
  have hHl:=hH.lg;rw [hKl] at hHl;refine ⟨⟨⟨fun _=>hF.can,fun hf=>?_,fun _=>?_,fun hf=>?_,fun hf=>?_⟩,by omega,by rw [hKk];exact Nat.le_trans hH.few (by omega),by rw [hKk];exact hH.can⟩,by rw [hch];exact hH.u,?_,by rw [hch];exact hKx.trans hH.same.x,by rw [hch];omega⟩
  ·rw [hQ];exact (hJ hf).j0
  ·rw [hQ];have:Q.head=P.head:=by rw [hFs.1]
   rw [this];have:=h.y.ch;omega
  ·rw [hQ];exact (hJ hf).can
  ·rw [hQ,hR,hRsv]
   have hne:P.saves≠[]:=fun e=>by
    unfold Pgr.fs at hf;rw [e] at hf;cases hf
   rcases List.eq_nil_or_concat P.saves with e | ⟨A,v,e⟩
   ·exact (hne e).elim
   ·rw [List.concat_eq_append] at e;refine ⟨A.length,v,by rw [e,List.length_append];rfl,by rw [e,List.getElem?_append_right (Nat.le_refl _),Nat.sub_self];rfl,?_⟩;have:=sx (hsv.im v (by rw [e];simp));omega
  ·have e:(P.change n old s).saves=K.saves:=by rw [hch,hH.same.1]
   rw [e,hKe];exact hsv2
 ·have hk2:P.fj n=false∧P.fs n=false:=by
   have:(P.fj n || P.fs n)=false:=by simpa using hk
   exact Bool.or_eq_false_iff.1 this
  have hKk:P.keep n old=P:=by unfold Pgr.keep;rw [if_neg hk]
  have hch:P.change n old s=P.hold n s true:=by unfold Pgr.change;rw [hKk]
  have hH:=oV (n:=n) (s:=s) (dt:=true) h (by omega) h1 hn hNN hN hs (.inl rfl) (fun _=>hbz) fun a b c=>by
   have:=hk2.1;unfold Pgr.fj at this;rw [a,decide_eq_true b,c] at this;cases this
  have hsv2:=hsv.change (s:=s) h1 hn h.y.lenB (b:=P.fs n) rfl;rw [hk2.2,if_neg (by decide)] at hsv2;refine ⟨⟨⟨fun hf=>absurd hf hk,fun hf=>?_,fun hf=>?_,fun hf=>?_,fun hf=>?_⟩,by omega,by rw [hKk];exact Nat.le_trans hH.few (by omega),by rw [hKk];exact hH.can⟩,by rw [hch];exact hH.u,?_,by rw [hch];exact hH.same.x,by rw [hch];have:=hH.lg;omega⟩
  ·rw [hk2.1] at hf;cases hf
  ·rw [hk2.1] at hf;cases hf
  ·rw [hk2.1] at hf;cases hf
  ·rw [hk2.2] at hf;cases hf
  ·have e:(P.change n old s).saves=P.saves:=by rw [hch,hH.same.1]
   rw [e];exact hsv2
end Go.Proofs.YtdmhbgpejppbkaaGreat
namespace Go.Proofs.YtdmhbgpejppbkaaGreat
open Go.Lib (hid)
open Go.RowKit
structure Ev where
 C:Int→By
 S:List (He × (Int→By))
 N:Nat
theorem kj {P:Pgr} (h:∀ x ∈ P.ca,x.2.2=false) (n:Nat) (s:By):(P.fetch n s).notes=P.notes∧(P.fetch n s).lg=P.lg∧(P.fetch n s).saves=P.saves∧∀ x ∈ (P.fetch n s).ca,x.2.2=false:=by
 unfold Pgr.fetch
 split
 ·refine ⟨rfl,rfl,rfl,fun x hx=>?_⟩;show x.2.2=false;have hx2:x ∈ kp (n:Int) P.ca:=hx;unfold kp at hx2
  split at hx2
  ·rename_i y hy
   rcases List.mem_append.1 hx2 with hx2 | hx2
   ·exact h x (vmem_without.1 hx2).1
   ·rw [List.mem_singleton.1 hx2];exact h y (List.mem_of_find?_eq_some hy)
  ·exact h x hx2
 ·have hl:∀ x ∈ without (n:Int) P.ca ++ [((n:Int),aj s,false)],x.2.2=false:=fun x hx=>by
   rcases List.mem_append.1 hx with hx | hx
   ·exact h x (vmem_without.1 hx).1
   ·rw [List.mem_singleton.1 hx]
  have hg:P.gone n s false=[]:=by unfold Pgr.gone fZ;simp only;rw [List.map_eq_nil_iff,List.filter_eq_nil_iff];intro x hx hd;rw [hl x (List.mem_of_mem_take hx)] at hd;cases hd
  unfold Pgr.hold;rw [hg];refine ⟨rfl,rfl,rfl,fun x hx=>?_⟩;have hx2:x ∈ (fZ P.size (n:Int) (aj s) false P.ca).1:=hx;unfold fZ at hx2;simp only at hx2;exact hl x (List.mem_of_mem_drop hx2)
structure InX (w:World) (L:PgL) (P:Pgr) (e:Ev) (c:Nat) (B:Int→By) (X:Nat→Prop) (w':World) (L':PgL) (P':Pgr):Prop where
 gp:L'.gp=L.gp
 is:PgIs w' L' P'
 same:P.SameX P'
 u:Uz P' e.C e.N B
 sv:SvZ P'.saves e.S B e.N
 few:aN P'.lg≤aN P.lg+c
 lim:P.busy=true∧aN P.lg≤14000
 F:∀ k,L'.F k→L.F k∨w.heap.size≤k
 X:∀ k,X k→¬ L'.F k∧w.heap.size≤k∧k<w'.heap.size
 ch:Ch L.F w w'
 qt:c<100→(∀ x ∈ P.ca,x.2.2=false)→(∀ x ∈ P'.ca,x.2.2=false)∧P'.notes=P.notes∧P'.lg=P.lg∧P'.saves=P.saves
def In (w:World) (L:PgL) (P:Pgr) (e:Ev) (c:Nat) (B:Int→By) (X:Nat→Prop) (w':World):Prop:=∃ L' P',InX w L P e c B X w' L' P'
section
variable {w w1 w2:World} {L:PgL} {P:Pgr} {e:Ev} {c c':Nat} {B:Int→By} {X X':Nat→Prop}
theorem In.refl (h:PgIs w L P) (hu:Uz P e.C e.N B) (hsv:SvZ P.saves e.S B e.N) (hb:P.busy=true) (hl:aN P.lg≤14000):In w L P e 0 B (fun _=>False) w:=⟨L,P,rfl,h,Pgr.SameX.refl P,hu,hsv,Nat.le_refl _,⟨hb,hl⟩,fun _ hk=>.inl hk,fun _ h=>h.elim,Ch.refl _ _,fun _ h=>⟨h,rfl,rfl,rfl⟩⟩
theorem In.mono (h:In w L P e c B X w1) (hc:c≤c'):In w L P e c' B X w1:=by obtain ⟨L',P',h⟩:=h;exact ⟨L',P',{ h with few:=by have:=h.few;omega,qt:=fun hq=>h.qt (by omega) }⟩
theorem In.below (h:In w L P e c B X w1) (hb:Below w1.heap.size w1 w2) (hx:∀ k,X' k→X k∨(w1.heap.size≤k∧k<w2.heap.size)):In w L P e c B X' w2:=by
 obtain ⟨L',P',h⟩:=h;refine ⟨L',P',h.gp,h.is.below hb,h.same,h.u,h.sv,h.few,h.lim,h.F,fun k hk=>?_,h.ch.trans (Ch.of_below hb),h.qt⟩;rcases hx k hk with e | ⟨e1,e2⟩
 ·obtain ⟨a,b,c⟩:=h.X k e;exact ⟨a,b,Nat.lt_of_lt_of_le c hb.size⟩
 ·exact ⟨fun hf=>by have:=h.is.lt hf;omega,Nat.le_trans h.ch.size e1,e2⟩
theorem In.post (h:In w L P e c B X w1) (hb:Below w1.heap.size w1 w2):In w L P e c B X w2:=h.below hb fun _ hk=>.inl hk
theorem In.alloc (h:In w L P e c B X w1) (o:Obj):In w L P e c B (fun k=>X k∨k=w1.heap.size) (w1.alloc o):=
 h.below ((Below.refl _ w1).alloc (Nat.le_refl _) o) fun k hk=>hk.imp id fun e=>by subst e;simp
theorem In.set (h:In w L P e c B X w1) {p:Addr} (hp:X p.block) (u:Value):In w L P e c B X (w1.setCell p u):=by obtain ⟨L',P',h⟩:=h;obtain ⟨a,b,c⟩:=h.X _ hp;have hc:=(Ch.refl (fun k=>k=p.block) w1).setCell (p:=p) rfl u;exact ⟨L',P',h.gp,h.is.ch hc (fun k hk e=>a (e ▸ hk)),h.same,h.u,h.sv,h.few,h.lim,h.F,fun k hk=>let ⟨a,b,c⟩:=h.X k hk;⟨a,b,Nat.lt_of_lt_of_le c hc.size⟩,h.ch.then hc fun k e=>.inr (e ▸ b),h.qt⟩
theorem In.ch (h:In w L P e c B X w1) {S:Nat→Prop} (hc:Ch S w1 w2) (hs:∀ k,S k→X k):In w L P e c B X w2:=by obtain ⟨L',P',h⟩:=h;exact ⟨L',P',h.gp,h.is.ch hc (fun k hk e=>(h.X k (hs k e)).1 hk),h.same,h.u,h.sv,h.few,h.lim,h.F,fun k hk=>let ⟨a,b,c⟩:=h.X k hk;⟨a,b,Nat.lt_of_lt_of_le c hc.size⟩,h.ch.then hc fun k e=>.inr (h.X k (hs k e)).2.1,h.qt⟩
theorem In.sub (h:In w L P e c B X w1) (hx:∀ k,X' k→X k):In w L P e c B X' w1:=by obtain ⟨L',P',h⟩:=h;exact ⟨L',P',{ h with X:=fun k hk=>h.X k (hx k hk) }⟩
theorem In.lt (h:In w L P e c B X w1) {k:Nat} (hk:X k):k<w1.heap.size:=let ⟨_,_,h⟩:=h;(h.X k hk).2.2
theorem In.size (h:In w L P e c B X w1):w.heap.size≤w1.heap.size:=let ⟨_,_,h⟩:=h;h.ch.size
theorem In.drew (h:In w L P e c B X w1):In w L P e c B X w1.drew:=h.post (Below.refl _ w1).drew
theorem InX.step {L':PgL} {P' P'':Pgr} {B':Int→By} {e':Ev} (h:InX w L P e c B X w1 L' P') (ht:PTo w1 L' P'' w2) (hs:P'.SameX P'') (hu:Uz P'' e'.C e'.N B') (hsv:SvZ P''.saves e'.S B' e'.N) (hf:aN P''.lg≤aN P.lg+c') (hq:c'<100→(∀ x ∈ P.ca,x.2.2=false)→(∀ x ∈ P''.ca,x.2.2=false)∧P''.notes=P.notes∧P''.lg=P.lg∧P''.saves=P.saves):In w L P e' c' B' X w2∧Ch (fun k=>¬ X k) w1 w2:=by
 obtain ⟨L2,g2,p2,f2,c2⟩:=ht;refine ⟨⟨L2,P'',g2.trans h.gp,p2,h.same.trans hs,hu,hsv,hf,h.lim,fun k hk=>?_,fun k hk=>?_,h.ch.then c2 h.F,hq⟩,c2.mono fun k _ hk hx=>(h.X k hx).1 hk⟩
 ·rcases f2 k hk with e | e
  ·exact h.F k e
  ·exact .inr (Nat.le_trans h.ch.size e)
 ·obtain ⟨a,b,c⟩:=h.X k hk;exact ⟨fun hf=>(f2 k hf).elim a (by omega),b,Nat.lt_of_lt_of_le c c2.size⟩
theorem InX.pto {L':PgL} {P':Pgr} (h:InX w L P e c B X w1 L' P'):PTo w L P' w1:=⟨L',h.gp,h.is,h.F,h.ch⟩
end
def cP (g:Nat):Value:=.agg #[ai g]
theorem uJ (n:Nat) (w1:World) {w:World} {L:PgL} {P:Pgr} {e0:Ev} {c:Nat} {B:Int→By} {X:Nat→Prop} (h:In w L P e0 c B X w1) (hc:c≤300) (h1:1≤n) (hn:n<e0.N):
  Calls Tryz.prog 309 #[cP L.gp,.int .i64 n] w1 fun e w2=>e=.returned (.tuple #[.string (aj (B n)),.int .i64 0])∧In w L P e0 (c+2) B X w2∧Ch (fun k=>¬ X k) w1 w2:=by
 have hA:Below w1.heap.size w1 (w1.alloc (.cells #[ai L.gp] 111)):=(Below.refl _ w1).alloc (Nat.le_refl _) _;have hX:(w1.alloc (.cells #[ai L.gp] 111)).heap[w1.heap.size]?=some (.cells #[ai L.gp] 111 (0,0)):=af rfl;obtain ⟨L',P',h0⟩:=h;have hN:=h0.u.N;have hfw:=h0.few;have hlm:=h0.lim.2;have ho:=oX (s:=B n) h0.u (by omega) h1 (by omega) (.inl ⟨hn,rfl⟩);have HF:=hid (ey n (B n) _ (h0.is.below hA) ho.can);have h0A:InX w L P e0 c B X (w1.alloc (.cells #[ai L.gp] 111)) L' P':=⟨h0.gp,h0.is.below hA,h0.same,h0.u,h0.sv,h0.few,h0.lim,h0.F,fun k hk=>let ⟨a,b,c⟩:=h0.X k hk;⟨a,b,Nat.lt_of_lt_of_le c hA.size⟩,h0.ch.trans (Ch.of_below hA),h0.qt⟩;have H0:=hid h0A;have HO:=hid ho;have HW:=hid hfw;have HA:=hid hA;have x0:=aa hX 0;have xl:=ab hX;simp only [List.getElem?_toArray,List.getElem?_cons_zero] at x0;rw [h0.gp] at HF;unfold cP ai at *;clear hX h0 h0A ho hA h1 hn hN hfw hlm hc;go_enter Tryz.func309,Tryz.ntmps309;go_wp2_with fail;refine HF.out.mono ?_;rintro e w2 ⟨rfl,hr⟩
 have hs:=H0.out.step (c':=c+2) (e':=e0) hr HO.out.same.x HO.out.u (by rw [HO.out.same.1];exact H0.out.sv) (by have:=HO.out.lg;have:=HW.out;omega) (fun hq hcl=>by
  obtain ⟨a1,a2,a3,a4⟩:=H0.out.qt (by omega) hcl;obtain ⟨b1,b2,b3,b4⟩:=kj a1 n (B n);exact ⟨b4,b1.trans a2,b2.trans a3,b3.trans a4⟩)
 have HS:=hid (show In w L P e0 (c+2) B X w2∧Ch (fun k=>¬ X k) w1 w2 from ⟨hs.1,(Ch.of_below HA.out).trans hs.2⟩);clear hr hs x0 xl;go_wp2_with fail;go_ret2;exact ⟨rfl,HS.out⟩
theorem uI (n:Nat) (s:By) (w1:World) {w:World} {L:PgL} {P:Pgr} {e0:Ev} {c:Nat} {B:Int→By} {X:Nat→Prop} (h:In w L P e0 c B X w1) (hc:c≤300) (h1:1≤n) (hn:n<e0.N) (hs:s.length=232):
  Calls Tryz.prog 310 #[cP L.gp,.int .i64 n,.string (aj s)] w1 fun e w2=>e=.returned (.int .i64 0)∧In w L P e0 (c+102) (fU B n s) X w2∧Ch (fun k=>¬ X k) w1 w2:=by
 have hA:Below w1.heap.size w1 (w1.alloc (.cells #[ai L.gp] 111)):=(Below.refl _ w1).alloc (Nat.le_refl _) _;have hX:(w1.alloc (.cells #[ai L.gp] 111)).heap[w1.heap.size]?=some (.cells #[ai L.gp] 111 (0,0)):=af rfl;obtain ⟨L',P',h0⟩:=h;have hN:=h0.u.N;have hfw:=h0.few;have hlm:=h0.lim;obtain ⟨old,ho⟩:=mm (s:=s) h0.u h0.sv (by rw [h0.same.1];exact hlm.1) (by omega) h1 (by omega) (.inl rfl) hN hs;have HF:=hid (gw n old s _ (h0.is.below hA) ho.can);have h0A:InX w L P e0 c B X (w1.alloc (.cells #[ai L.gp] 111)) L' P':=⟨h0.gp,h0.is.below hA,h0.same,h0.u,h0.sv,h0.few,h0.lim,h0.F,fun k hk=>let ⟨a,b,c⟩:=h0.X k hk;⟨a,b,Nat.lt_of_lt_of_le c hA.size⟩,h0.ch.trans (Ch.of_below hA),h0.qt⟩;have H0:=hid h0A;have HO:=hid ho;have HW:=hid hfw;have HA:=hid hA;have x0:=aa hX 0;have xl:=ab hX;simp only [List.getElem?_toArray,List.getElem?_cons_zero] at x0;rw [h0.gp] at HF;unfold cP ai at *;clear hX h0 h0A ho hA h1 hn hs hN hfw hlm hc;go_enter Tryz.func310,Tryz.ntmps310;go_wp2_with fail;refine HF.out.mono ?_;rintro e w2 ⟨rfl,hr⟩;have hs:=H0.out.step (c':=c+102) (e':=e0) hr HO.out.same HO.out.u HO.out.sv (by have:=HO.out.lg;have:=HW.out;omega) (fun hq=>by omega);have HS:=hid (show In w L P e0 (c+102) (fU B n s) X w2∧Ch (fun k=>¬ X k) w1 w2 from ⟨hs.1,(Ch.of_below HA.out).trans hs.2⟩);clear hr hs x0 xl;go_wp2_with fail;go_ret;exact ⟨rfl,HS.out⟩
end Go.Proofs.YtdmhbgpejppbkaaGreat
namespace Go.Proofs.YtdmhbgpejppbkaaGreat
open Go.RowKit Go.Maps
def zL (v:Value):Option (DataW Unit × List MemPlace):=match v with
 | .string s=>some (.lit (.string (bs s)),[])
 | _=>none
theorem pE {v:Value} {l:List UInt8} {ps:List MemPlace} (h:zL v=some (.lit (.string l),ps)):v=.string (aj l):=by
 unfold zL at h
 split at h
 ·simp only [Option.some.injEq,Prod.mk.injEq,DataW.lit.injEq,Lit.string.injEq] at h;rw [← h.1,eL]
 ·cases h
theorem xP {n:Int} (h0:0≤n) (h1:n<4096):gE n:=WalkArith.wf_i64 (by omega)
theorem xO (w:World):(zeroValue 9).run Tryz.prog w=.ok (.string ⟨#[]⟩) w:=by kernel_rfl
theorem kw {m n:Int} (h:m≠n):cq m≠cq n:=fun e=>h (by cases e;rfl)
theorem nf:∀ (N:Nat) (K:List Int),K.Nodup→(∀ n ∈ K,0≤n∧n<N)→K.length≤N
 | 0,K,_,h=>by
   cases K with
   | nil=>exact Nat.le_refl _
   | cons a K=>have:=h a List.mem_cons_self;omega
 | N+1,K,hn,h=>by
   have h1:=nf N (K.filter fun n=>!(n == N)) (hn.sublist List.filter_sublist) (fun n hn=>by
    rw [List.mem_filter] at hn;have:=h n hn.1;have h2:n≠N:=by simpa using hn.2
    omega)
   have h2:K.length≤(K.filter fun n=>!(n == (N:Int))).length+1:=by
    have:=hn;clear h1 h
    induction K with
    | nil=>simp
    | cons a K ih=>
      rw [List.nodup_cons] at this;by_cases ha:a=N
      ·subst ha
       rw [List.filter_cons_of_neg (by simp),List.filter_eq_self.2 (fun x hx=>by
        have:x≠N:=fun e=>this.1 (e ▸ hx)
        simpa using this)]
       simp
      ·rw [List.filter_cons_of_pos (by simpa using ha)];simp only [List.length_cons];have:=ih this.2 this.2;omega
   omega
def sI:List UInt8:=List.replicate 232 0
structure BookOf (D:DataW Unit) (K:List Int) (B:Int→List UInt8):Prop where
 tidy:Tidy D
 nd:K.Nodup
 rng:∀ n ∈ K,0≤n∧n<(4096:Nat)
 yes:∀ n ∈ K,∀ z,D.atKey (cq n) z=.lit (.string (B n))
 no:∀ n,n ∉ K→has D (cq n)=false∧B n=sI
 size:size D=K.length
def bW (B:Int→List UInt8) (n:Int) (l:List UInt8):Int→List UInt8:=fun m=>if m=n then l else B m
theorem BookOf.put {D:DataW Unit} {K:List Int} {B:Int→List UInt8} (h:BookOf D K B) {n:Int} (h0:0≤n) (h1:n<4096) (s:ByteArray):∃ K',BookOf (D.put (cq n) (.lit (.string (bs s)))) K' (bW B n (bs s)):=by
 by_cases hn:n ∈ K
 ·refine ⟨K,h.tidy.put (gR n) _,h.nd,h.rng,fun m hm z=>?_,fun m hm=>?_,?_⟩
  ·unfold bW;by_cases e:m=n
   ·subst e;rw [if_pos rfl];exact atKey_put_same h.tidy.isMap (gR m) _ _
   ·rw [if_neg e,atKey_put_other (kw e)];exact h.yes m hm z
  ·have e:m≠n:=fun e=>hm (e ▸ hn)
   unfold bW;rw [has_put_other (kw e),if_neg e];exact h.no m hm
  ·rw [size_put h.tidy,has_true_of_atKey (fun z=>h.yes n hn z),if_pos rfl,h.size]
 ·refine ⟨K ++ [n],h.tidy.put (gR n) _,?_,fun m hm=>?_,fun m hm z=>?_,fun m hm=>?_,?_⟩
  ·rw [List.nodup_append];exact ⟨h.nd,by simp,fun a ha b hb e=>by simp at hb;subst e hb;exact hn ha⟩
  ·rcases List.mem_append.1 hm with hm | hm
   ·exact h.rng m hm
   ·rw [List.mem_singleton.1 hm];exact ⟨h0,by omega⟩
  ·unfold bW;rcases List.mem_append.1 hm with hm | hm
   ·have e:m≠n:=fun e=>hn (e ▸ hm)
    rw [if_neg e,atKey_put_other (kw e)];exact h.yes m hm z
   ·rw [List.mem_singleton.1 hm,if_pos rfl];exact atKey_put_same h.tidy.isMap (gR n) _ _
  ·rw [List.mem_append,not_or] at hm;have e:m≠n:=by simpa using hm.2
   unfold bW;rw [has_put_other (kw e),if_neg e];exact h.no m hm.1
  ·rw [size_put h.tidy,(h.no n hn).1,if_neg (by simp),h.size,List.length_append];rfl
def BookIs (w:World) (gm:Nat) (B:Int→List UInt8):Prop:=∃ D K,w.ownsMap Tryz.prog 3 zL gm K.length D∧BookOf D K B
section
variable {w w':World} {gm:Nat} {B:Int→List UInt8}
theorem BookIs.made (w:World):BookIs (w.alloc (.map #[] 0)) w.heap.size (fun _=>sI):=
 ⟨_,[],World.ownsMap_made w _ _ _,tidy_empty,List.Pairwise.nil,fun _ h=>absurd h List.not_mem_nil,fun _ h=>absurd h List.not_mem_nil,fun _ _=>⟨rfl,rfl⟩,rfl⟩
theorem BookIs.lt (h:BookIs w gm B):gm<w.heap.size:=let ⟨_,_,h,_⟩:=h;h.lt
theorem BookIs.block (h:BookIs w gm B) (hb:w'.heap[gm]?=w.heap[gm]?):BookIs w' gm B:=by obtain ⟨D,K,⟨es,clock,hh,F,hs,hD⟩,hm⟩:=h;exact ⟨D,K,⟨es,clock,hb.trans hh,F,hs,hD⟩,hm⟩
theorem BookIs.ch {S:Nat→Prop} (h:BookIs w gm B) (hc:Ch S w w') (hn:¬ S gm):BookIs w' gm B:=h.block (hc.block gm h.lt hn)
theorem BookIs.look (h:BookIs w gm B) {n:Int} (hw:gE n):∃ (v:ByteArray) (b:Bool),(Instr.lookup 103 (.map (some gm)) (.int .i64 n) true).run Tryz.prog w=.ok (.tuple #[.string v,.bool b]) w∧(b=true→v=aj (B n))∧(b=false→B n=sI):=by
 obtain ⟨D,K,hown,hm⟩:=h;obtain ⟨v,ps,hrun,hv⟩:=hown.look_ok bY Tryz.underlying103 (xO w) (zd:=.lit (.string [])) (zp:=[]) rfl (dY hw);by_cases hn:n ∈ K
 ·rw [hm.yes n hn] at hv;have:=pE hv;subst this;exact ⟨_,_,hrun,fun _=>rfl,fun h=>by rw [has_true_of_atKey (fun z=>hm.yes n hn z)] at h;cases h⟩
 ·rw [atKey_of_not_has (hm.no n hn).1] at hv;have:=pE hv;subst this;refine ⟨_,_,hrun,?_⟩;rw [(hm.no n hn).1];exact ⟨fun h=>(by cases h),fun _=>(hm.no n hn).2⟩
theorem BookIs.put (h:BookIs w gm B) {n:Int} (h0:0≤n) (h1:n<4096) (s:ByteArray):
  ∃ w',(Instr.mapUpdate 103 (.map (some gm)) (.int .i64 n) (.string s)).run Tryz.prog w=.ok () w'∧BookIs w' gm (bW B n (bs s))∧w.grownBy w' (some gm):=by
 obtain ⟨D,K,hown,hm⟩:=h;have hl:=nf 4096 K hm.nd hm.rng;obtain ⟨w',hrun,hown',hg⟩:=hown.update bY Tryz.underlying103 (by simp [maxLen];omega) (dY (xP h0 h1)) (val:=.string s) (d:=.lit (.string (bs s))) (ps:=[]) rfl;obtain ⟨K',hm'⟩:=hm.put h0 h1 s;exact ⟨w',hrun,⟨_,K',jD hown' hm'.size,hm'⟩,hg⟩
end
end Go.Proofs.YtdmhbgpejppbkaaGreat
namespace Go.Proofs.YtdmhbgpejppbkaaGreat
open Go.RowKit Go.Maps
def jk (l:List UInt8):Int:=if cT l then 0 else 30
def kn (t:Tk):Int:=if bE t then 30 else 0
def jJ (t:Tk) (B:Int→List UInt8) (n:Int):Int→List UInt8:=if bE t then B else bW B n (aT (eG t))
end Go.Proofs.YtdmhbgpejppbkaaGreat
