/- A healthy disk of a pager seen as sectors: its three files. What a journal's file holds: records and feet. What a log's file holds: frames with their pages. pager: begin, done, told, Head, start, Begin. -/
import Derived.Test.YtdmhbgpejppbkaaGreatXGax
set_option maxRecDepth 100000
set_option maxHeartbeats 4000000
namespace Go.Proofs.YtdmhbgpejppbkaaGreat
open Go.RowKit
def Dk.now (d:Dk) (n:By):List By:=((d.file n).getD .empty).now
def Dk.has (d:Dk) (n:By):Bool:=(d.file n).isSome
theorem oq {α:Type} (f:α→Nat):∀ (K L:List α),K.Nodup→(∀ k ∈ K,k ∈ L)→(K.map f).sum≤(L.map f).sum
 | [],_,_,_=>Nat.zero_le _
 | a :: K,L,hn,hs=>by
   obtain ⟨L1,L2,rfl⟩:=List.append_of_mem (hs a List.mem_cons_self);rw [List.nodup_cons] at hn
   have:=oq f K (L1 ++ L2) hn.2 fun k hk=>by
    have h1:=hs k (List.mem_cons_of_mem _ hk);simp only [List.mem_append,List.mem_cons] at h1 ⊢;rcases h1 with h1 | rfl | h1
    ·exact .inl h1
    ·exact (hn.1 hk).elim
    ·exact .inr h1
   simp only [List.map_append,List.map_cons,List.sum_append,List.sum_cons] at this ⊢;omega
theorem gP {α:Type} {K L:List α} (hn:K.Nodup) (hs:∀ k ∈ K,k ∈ L):K.length≤L.length:=by
 have e:∀ M:List α,(M.map fun _=>1).sum=M.length:=fun M=>by
  induction M with
  | nil=>rfl
  | cons a M ih=>rw [List.map_cons,List.sum_cons,ih,List.length_cons];omega
 have:=oq (fun _=>1) K L hn hs
 rwa [e,e] at this
theorem jh {d:Dk} (h:d.Ok) (n:By):((d.file n).getD .empty).Ok:=by
 cases hf:d.file n with
 | none=>exact ⟨rfl,rfl,fun s hs=>(by cases hs),by simp [Fi.empty],fun s hs=>(by cases hs)⟩
 | some f=>exact cD h hf
theorem zH {d:Dk} (h:d.Ok) {n:By} {i:Nat} {s:By} (hs:s.length=256) (hf:d.files.length<8) (hl:(d.now n).length<100000):(d.wr n i s).Ok:=
 fb h (vL (jh h n) hs fun _=>hl) fun _=>hf
theorem sQ {d:Dk} (h:d.Ok) {n:By} {g:Fi→Fi} (hg:(g ((d.file n).getD .empty)).Ok) (hf:d.files.length<8):(d.setF n g).Ok:=
 fb h hg fun _=>hf
theorem iY {α β:Type} [DecidableEq α] (K:List (α × β)) (a:α):(cR K a).Sublist K:=by unfold cR;exact List.filter_sublist
theorem xQ {d:Dk} (h:d.Ok) (n:By):(d.del n).Ok:=
 ⟨h.nd.sublist ((iY _ _).map _),Nat.le_trans (iY _ _).length_le h.few,fun p hp=>h.fok p ((iY _ _).subset hp),h.room,h.life,h.at_,h.kind,h.more⟩
section
variable {d:Dk} {n m:By}
theorem io (h:d.Ok) {i:Nat} {s:By} (hi:i≤(d.now n).length):(d.wr n i s).now m=if m=n then (d.now n).take i ++ s :: (d.now n).drop (i+1) else d.now m:=by
 unfold Dk.now;rw [Dk.wr_file h]
 split
 ·rw [Option.getD_some,zP hi]
 ·rfl
theorem gA (h:d.Ok) {i:Nat} {s:By}:(d.wr n i s).has m=(decide (m=n) || d.has m):=by
 unfold Dk.has;rw [Dk.wr_file h]
 split
 ·rename_i e;rw [decide_eq_true e];rfl
 ·rename_i e;rw [decide_eq_false e];rfl
theorem bG (h:d.Ok):(d.setF n Fi.settle).now m=d.now m:=by
 unfold Dk.now;rw [Dk.setF_file h]
 split
 ·rename_i e;subst e;rfl
 ·rfl
theorem cQ (h:d.Ok) {g:Fi→Fi}:(d.setF n g).has m=(decide (m=n) || d.has m):=by
 unfold Dk.has;rw [Dk.setF_file h]
 split
 ·rename_i e;rw [decide_eq_true e];rfl
 ·rename_i e;rw [decide_eq_false e];rfl
theorem gM (h:d.Ok) {k:Nat}:(d.setF n (·.cut k)).now m=if m=n then (d.now n).take k else d.now m:=by
 unfold Dk.now;rw [Dk.setF_file h]
 split
 ·rfl
 ·rfl
theorem gL (h:d.Ok):(d.del n).now m=if m=n then [] else d.now m:=by
 unfold Dk.now;rw [Dk.del_file h]
 split
 ·rfl
 ·rfl
theorem eK (h:d.Ok):(d.del n).has m=if m=n then false else d.has m:=by
 unfold Dk.has;rw [Dk.del_file h]
 split
 ·rfl
 ·rfl
theorem has_none:d.has n=false↔d.file n=none:=by unfold Dk.has;cases d.file n <;> simp
theorem ce (h:d.has n=true):∃ f,d.file n=some f∧f.now=d.now n:=by
 unfold Dk.has at h;unfold Dk.now;cases hf:d.file n with
 | none=>rw [hf] at h;cases h
 | some f=>exact ⟨f,rfl,rfl⟩
theorem iN (h:d.has n=false):d.now n=[]:=by unfold Dk.now;rw [has_none.1 h];rfl
theorem vZ (h:d.has n=true):d.size n=(d.now n).length:=by obtain ⟨f,h1,h2⟩:=ce h;rw [Dk.size_some h1,h2]
theorem sB {i:Nat} {s:By} (h:(d.now n)[i]?=some s):d.has n=true:=by
 cases hh:d.has n
 ·rw [iN hh] at h;cases h
 ·rfl
end
structure Dz (d:Dk):Prop where
 ok:d.Ok
 fine:d.Fine
 room:d.room=16384
 keys:∀ p ∈ d.files,p.1 ∈ [aQ,aA,bf]
 jl:(d.now aQ).length≤400
 ml:(d.now aA).length≤100
 ll:(d.now bf).length≤15500
theorem Dz.few {d:Dk} (h:Dz d):d.files.length≤3:=by
 have:=gP (K:=d.files.map (·.1)) (L:=[aQ,aA,bf]) h.ok.nd fun k hk=>by
  obtain ⟨p,hp,rfl⟩:=List.mem_map.1 hk;exact h.keys p hp
 rw [List.length_map] at this;exact this
theorem Dz.total {d:Dk} (h:Dz d):d.total≤16000:=by
 have:=oq (oQ d) (d.files.map (·.1)) [aQ,aA,bf] h.ok.nd fun k hk=>by
  obtain ⟨p,hp,rfl⟩:=List.mem_map.1 hk;exact h.keys p hp
 rw [jX h.ok];have h1:=h.jl;have h2:=h.ml;have h3:=h.ll;have e:∀ k,oQ d k=(d.now k).length:=fun k=>rfl
 simp only [List.map_cons,List.map_nil,List.sum_cons,List.sum_nil,e] at this ⊢;omega
theorem Dz.can {d:Dk} (h:Dz d) {n:By} {i:Nat} (hi:i≤(d.now n).length):d.Can n i:=by have h1:=h.few;have h2:=h.total;exact ⟨hi,fun _=>by omega,fun _=>by rw [h.room];omega⟩
theorem jn_ne:aQ≠aA:=by decide
theorem jn_lo:aQ≠bf:=by decide
theorem ma_lo:aA≠bf:=by decide
theorem Dz.wr {d:Dk} (h:Dz d) {n:By} {i:Nat} {s:By} (hn:n ∈ [aQ,aA,bf]) (hs:s.length=256)
  (hj:((d.wr n i s).now aQ).length≤400) (hm:((d.wr n i s).now aA).length≤100) (hl:((d.wr n i s).now bf).length≤15500):Dz (d.wr n i s):=by
 have h1:=h.few;have hk:(d.now n).length<100000:=by have a1:=h.jl;have a2:=h.ml;have a3:=h.ll;simp only [List.mem_cons,List.not_mem_nil,or_false] at hn;rcases hn with rfl | rfl | rfl <;> omega
 refine ⟨zH h.ok hs (by omega) hk,h.fine.wr,h.room,fun p hp=>?_,hj,hm,hl⟩;rcases cy hp with e | e
 ·rw [e];exact hn
 ·exact h.keys p e
theorem Dz.settle {d:Dk} (h:Dz d) {n:By} (hn:n ∈ [aQ,aA,bf]):Dz (d.setF n Fi.settle):=by
 have h1:=h.few;refine ⟨sQ h.ok (mP (jh h.ok n)) (by omega),h.fine.setF,h.room,fun p hp=>?_,by rw [bG h.ok];exact h.jl,by rw [bG h.ok];exact h.ml,by rw [bG h.ok];exact h.ll⟩;rcases cy hp with e | e
 ·rw [e];exact hn
 ·exact h.keys p e
theorem Dz.cut {d:Dk} (h:Dz d) {n:By} (hn:n ∈ [aQ,aA,bf]) (k:Nat):Dz (d.setF n (·.cut k)):=by
 have h1:=h.few;have a1:=h.jl;have a2:=h.ml;have a3:=h.ll
 have hlen:∀ m,((d.setF n (·.cut k)).now m).length≤(d.now m).length:=fun m=>by
  rw [gM h.ok]
  split
  ·rename_i e;subst e;rw [List.length_take];omega
  ·exact Nat.le_refl _
 have l1:=hlen aQ;have l2:=hlen aA;have l3:=hlen bf;refine ⟨sQ h.ok (xm (jh h.ok n) k) (by omega),h.fine.setF,h.room,fun p hp=>?_,by omega,by omega,by omega⟩;rcases cy hp with e | e
 ·rw [e];exact hn
 ·exact h.keys p e
theorem Dz.del {d:Dk} (h:Dz d) (n:By):Dz (d.del n):=by
 have a1:=h.jl;have a2:=h.ml;have a3:=h.ll
 have hlen:∀ m,((d.del n).now m).length≤(d.now m).length:=fun m=>by
  rw [gL h.ok]
  split
  ·exact Nat.zero_le _
  ·exact Nat.le_refl _
 have l1:=hlen aQ;have l2:=hlen aA;have l3:=hlen bf;exact ⟨xQ h.ok n,h.fine.del,h.room,fun p hp=>h.keys p ((iY _ _).subset hp),by omega,by omega,by omega⟩
def rE (L:List By) (n:Nat):List By:=L ++ List.replicate (n - L.length) zeroS
def qv (L:List By) (n:Nat) (s:By):List By:=(rE L n).take n ++ s :: (rE L n).drop (n+1)
theorem iL (L:List By) (n:Nat):(rE L n).length=max L.length n:=by unfold rE;rw [List.length_append,List.length_replicate];omega
theorem lD (L:List By) (n:Nat) (s:By):(qv L n s).length=max L.length (n+1):=by unfold qv;have:=iL L n;rw [List.length_append,List.length_take,List.length_cons,List.length_drop];omega
theorem yF (L:List By) (n:Nat) (s:By):(qv L n s)[n]?=some s:=by unfold qv;have:=iL L n;rw [List.getElem?_append_right (by rw [List.length_take];omega),List.length_take,Nat.min_eq_left (by omega),Nat.sub_self];rfl
theorem wD {L:List By} {n m:Nat} {s:By} (hm:m≠n) (hl:m<L.length):(qv L n s)[m]?=L[m]?:=by
 unfold qv;have h1:=iL L n;have h2:(rE L n)[m]?=L[m]?:=by unfold rE;rw [List.getElem?_append_left hl]
 by_cases hmn:m<n
 ·rw [List.getElem?_append_left (by rw [List.length_take];omega),List.getElem?_take_of_lt hmn,h2]
 ·rw [List.getElem?_append_right (by rw [List.length_take];omega),List.length_take,Nat.min_eq_left (by omega),show m - n=(m - n - 1)+1 by omega,List.getElem?_cons_succ,List.getElem?_drop,show n+1+(m - n - 1)=m by omega,h2]
theorem qI {d:Dk} (h:Dz d):∀ k:Nat,(d.now aA).length+k≤100→Dz (d.fill aA k)∧(∀ m,(d.fill aA k).now m=if m=aA then d.now aA ++ List.replicate k zeroS else d.now m)∧(∀ m,m≠aA→(d.fill aA k).has m=d.has m)∧FillOk d (d.fill aA k) k
 | 0,_=>⟨h,fun m=>by
    show d.now m=_
    split
    ·rename_i e;subst e;simp
    ·rfl,fun _ _=>rfl,tB h.fine fun _=>by have:=h.few;omega⟩
 | k+1,hk=>by
   obtain ⟨i1,i2,i3,i4⟩:=qI h k (by omega);have hlen:((d.fill aA k).now aA).length=(d.now aA).length+k:=by rw [i2,if_pos rfl,List.length_append,List.length_replicate]
   have hnow:∀ m,((d.fill aA k).wr aA ((d.now aA).length+k) zeroS).now m=if m=aA then d.now aA ++ List.replicate (k+1) zeroS else d.now m:=fun m=>by
    rw [io i1.ok (by omega)]
    split
    ·rw [← hlen,List.take_length,List.drop_eq_nil_of_le (by omega),i2,if_pos rfl,List.replicate_succ',List.append_assoc]
    ·rename_i e;rw [i2,if_neg e]
   have e:d.fill aA (k+1)=(d.fill aA k).wr aA ((d.now aA).length+k) zeroS:=rfl;rw [e];refine ⟨i1.wr (by simp) jg ?_ ?_ ?_,hnow,fun m hm=>?_,tA i4 i1.ok⟩
   ·rw [hnow,if_neg jn_ne];exact h.jl
   ·rw [hnow,if_pos rfl,List.length_append,List.length_replicate];omega
   ·rw [hnow,if_neg ma_lo.symm];exact h.ll
   ·rw [gA i1.ok,decide_eq_false hm];exact i3 m hm
structure LayZ (d:Dk) (n:Nat) (s:By):Prop where
 z:Dz (d.lay n s)
 now:∀ m,(d.lay n s).now m=if m=aA then qv (d.now aA) n (aI 1 n 0 s) else d.now m
 has:∀ m,m≠aA→(d.lay n s).has m=d.has m
theorem wC {d:Dk} (h:Dz d) {n:Nat} {s:By} (hn:n<100) (hs:s.length=232):LayZ d n s:=by
 have hml:=h.ml;obtain ⟨i1,i2,i3,i4⟩:=qI h (n - (d.now aA).length) (by omega);have hp:(d.fill aA (n - (d.now aA).length)).now aA=rE (d.now aA) n:=by rw [i2,if_pos rfl];rfl
 have hpl:=iL (d.now aA) n
 have hnow:∀ m,(d.lay n s).now m=if m=aA then qv (d.now aA) n (aI 1 n 0 s) else d.now m:=fun m=>by
  show ((d.fill aA (n - (d.now aA).length)).wr aA n (aI 1 n 0 s)).now m=_;rw [io i1.ok (by rw [hp];omega),hp]
  split
  ·rfl
  ·rename_i e;rw [i2,if_neg e]
 refine ⟨?_,hnow,fun m hm=>?_⟩
 ·refine i1.wr (n:=aA) (i:=n) (by simp) (bw hs) ?_ ?_ ?_
  ·exact (hnow aQ).symm ▸ (by rw [if_neg jn_ne];exact h.jl)
  ·have:=hnow aA;rw [if_pos rfl] at this;show ((d.lay n s).now aA).length≤100;rw [this,lD];omega
  ·exact (hnow bf).symm ▸ (by rw [if_neg ma_lo.symm];exact h.ll)
 ·show ((d.fill aA (n - (d.now aA).length)).wr aA n (aI 1 n 0 s)).has m=_;rw [gA i1.ok,decide_eq_false hm];exact i3 m hm
theorem onDisk_iff {d:Dk} {n:Nat} {s:By}:aF d n s↔(d.now aA)[n]?=some (aI 1 n 0 s):=by
 unfold aF Dk.now;constructor
 ·rintro ⟨f,h1,h2⟩;rw [h1];exact h2
 ·intro h;cases hf:d.file aA with
  | none=>rw [hf] at h;cases h
  | some f=>rw [hf] at h;exact ⟨f,rfl,h⟩
theorem oR {d:Dk} {n:Nat} {s:By} (h:LayZ d n s):aF (d.lay n s) n s:=by rw [onDisk_iff,h.now,if_pos rfl];exact yF _ _ _
theorem cB {α:Type} {L:List α} {n:Nat} {s:α} (h:L[n]?=some s):n<L.length:=by
 by_cases hl:n<L.length
 ·exact hl
 ·rw [List.getElem?_eq_none (by omega)] at h;cases h
theorem ku {d:Dk} {n m:Nat} {s t:By} (h:LayZ d n s) (hm:m≠n) (ho:aF d m t):aF (d.lay n s) m t:=by rw [onDisk_iff] at ho ⊢;rw [h.now,if_pos rfl,wD hm (cB ho)];exact ho
theorem ub {k n m:Nat} {a b:By} (ha:a.length=232) (hb:b.length=232) (h:aI k n m a=aI k n m b):a=b:=by
 have:=congrArg (List.take 232) h
 rwa [eS ha,eS hb] at this
end Go.Proofs.YtdmhbgpejppbkaaGreat
namespace Go.Proofs.YtdmhbgpejppbkaaGreat
open Go.RowKit
abbrev It:=Option (Nat × By)
structure JS where
 f:Nat
 su:List (Nat × By)
 lo:List (Nat × By)
def JS.zero:JS:=⟨0,[],[]⟩
def JS.go (x:JS):It→JS
 | some r=>{ x with lo:=x.lo ++ [r] }
 | none=>⟨x.f+1,x.su ++ x.lo,[]⟩
def aW (l:List It):JS:=l.foldl JS.go .zero
theorem cO (l:List It) (i:It):aW (l ++ [i])=(aW l).go i:=by unfold aW;rw [List.foldl_append];rfl
def sm (salt pages:Nat) (x:JS):It→By
 | some r=>aI 2 r.1 salt r.2
 | none=>aI 3 x.lo.length salt (bB pages x.f)
def gz (salt pages:Nat):JS→List It→List By
 | _,[]=>[]
 | x,i :: r=>sm salt pages x i :: gz salt pages (x.go i) r
theorem iu (salt pages:Nat) (i:It):∀ (l:List It) (x:JS),gz salt pages x (l ++ [i])=gz salt pages x l ++ [sm salt pages (l.foldl JS.go x) i]
 | [],x=>rfl
 | a :: l,x=>by
   rw [List.cons_append];show sm salt pages x a :: gz salt pages (x.go a) (l ++ [i])=_;rw [iu salt pages i l (x.go a)];rfl
theorem gS (salt pages:Nat):∀ (l:List It) (x:JS),(gz salt pages x l).length=l.length
 | [],_=>rfl
 | a :: l,x=>by
   show (gz salt pages (x.go a) l).length+1=l.length+1;rw [gS salt pages l]
theorem np (salt pages:Nat):∀ (l:List It) (x:JS) (k:Nat) (i:It),l[k]?=some i→(gz salt pages x l)[k]?=some (sm salt pages ((l.take k).foldl JS.go x) i)
 | [],_,_,_,h=>by cases h
 | a :: l,x,0,i,h=>by
   injection h with h
   subst h;rfl
 | a :: l,x,k+1,i,h=>np salt pages l (x.go a) k i h
def ItOk (pages:Nat) (l:List It):Prop:=(∀ r,some r ∈ l→r.1<pages∧r.2.length=232)∧∀ k,l[k]?=some none→(aW (l.take k)).f=0∨(aW (l.take k)).lo≠[]
theorem ItOk.nil {pages:Nat}:ItOk pages []:=⟨fun _ h=>absurd h List.not_mem_nil,fun _ h=>by cases h⟩
theorem ItOk.rec_ {pages:Nat} {l:List It} (h:ItOk pages l) {r:Nat × By} (h1:r.1<pages) (h2:r.2.length=232):ItOk pages (l ++ [some r]):=by
 refine ⟨fun q hq=>?_,fun k hk=>?_⟩
 ·rcases List.mem_append.1 hq with hq | hq
  ·exact h.1 q hq
  ·injection List.mem_singleton.1 hq with e
   subst e;exact ⟨h1,h2⟩
 ·have hlt:=cB hk;rw [List.length_append,List.length_singleton] at hlt;by_cases hl:k<l.length
  ·rw [List.getElem?_append_left hl] at hk;rw [List.take_append_of_le_length (by omega)];exact h.2 k hk
  ·have e:k=l.length:=by omega
   subst e;rw [List.getElem?_append_right (Nat.le_refl _),Nat.sub_self] at hk;cases hk
theorem ItOk.foot {pages:Nat} {l:List It} (h:ItOk pages l) (hf:(aW l).f=0∨(aW l).lo≠[]):ItOk pages (l ++ [none]):=by
 refine ⟨fun q hq=>?_,fun k hk=>?_⟩
 ·rcases List.mem_append.1 hq with hq | hq
  ·exact h.1 q hq
  ·cases List.mem_singleton.1 hq
 ·have hlt:=cB hk;rw [List.length_append,List.length_singleton] at hlt;by_cases hl:k<l.length
  ·rw [List.getElem?_append_left hl] at hk;rw [List.take_append_of_le_length (by omega)];exact h.2 k hk
  ·have e:k=l.length:=by omega
   subst e;rw [List.take_append_of_le_length (Nat.le_refl _),List.take_length];exact hf
theorem ItOk.pre {pages:Nat} {l:List It} {i:It} (h:ItOk pages (l ++ [i])):ItOk pages l:=by refine ⟨fun r hr=>h.1 r (List.mem_append_left _ hr),fun k hk=>?_⟩;have hl:=cB hk;have:=h.2 k (by rw [List.getElem?_append_left hl];exact hk);rw [List.take_append_of_le_length (by omega)] at this;exact this
theorem lK {pages:Nat}:∀ (n:Nat) (l:List It),l.length=n→ItOk pages l→l.length=(aW l).su.length+(aW l).lo.length+(aW l).f∧(aW l).f≤(aW l).su.length+1
 | 0,l,hn,_=>by
   cases l with
   | nil=>exact ⟨rfl,by decide⟩
   | cons _ _=>cases hn
 | n+1,l,hn,h=>by
   rcases List.eq_nil_or_concat l with rfl | ⟨l',i,rfl⟩
   ·cases hn
   ·rw [List.concat_eq_append] at *;rw [List.length_append,List.length_singleton] at hn;have ih:=lK n l' (by omega) h.pre;rw [cO,List.length_append,List.length_singleton];cases i with
    | some r=> show _=(aW l').su.length+((aW l').lo ++ [r]).length+(aW l').f∧(aW l').f≤(aW l').su.length+1;rw [List.length_append,List.length_singleton];omega
    | none=>
      have hf:=h.2 l'.length (by rw [List.getElem?_append_right (Nat.le_refl _),Nat.sub_self];rfl);rw [List.take_append_of_le_length (Nat.le_refl _),List.take_length] at hf;show _=((aW l').su ++ (aW l').lo).length+0+((aW l').f+1)∧(aW l').f+1≤((aW l').su ++ (aW l').lo).length+1;rw [List.length_append];have hl:(aW l').lo≠[]→0<(aW l').lo.length:=List.length_pos_iff.2;rcases hf with hf | hf
      ·omega
      ·have:=hl hf;omega
def JS.all (x:JS):List (Nat × By):=x.su ++ x.lo
structure JZ (base salt:Nat) (C:Int→By) (d:Dk) (nt:Option Jn) (its:List It):Prop where
 now:d.now aQ=gz salt base .zero its
 has:d.has aQ=!its.isEmpty
 ok:ItOk base its
 nd:((aW its).all.map (·.1)).Nodup
 img:∀ r ∈ (aW its).all,1≤r.1→r.2=C r.1
 no:nt=none→its=[]
 yes:∀ j,nt=some j→j.pages=base∧j.salt=salt∧j.feet=(aW its).f∧j.loose=(aW its).lo.length∧j.noted.length≤(aW its).all.length∧(j.noted.map (·.1)).Nodup∧∀ n,j.has n=decide (n ∈ (aW its).all.map (·.1))
theorem iS {base salt:Nat} {C:Int→By} {d:Dk} (h:d.has aQ=false):JZ base salt C d none []:=
 ⟨iN h,h,.nil,List.nodup_nil,fun _ h=>absurd h List.not_mem_nil,fun _=>rfl,fun _ h=>by cases h⟩
section
variable {base salt:Nat} {C:Int→By} {d:Dk} {nt:Option Jn} {its:List It}
theorem JZ.same (h:JZ base salt C d nt its) {d':Dk} (h1:d'.now aQ=d.now aQ) (h2:d'.has aQ=d.has aQ):JZ base salt C d' nt its:=
 ⟨h1.trans h.now,h2.trans h.has,h.ok,h.nd,h.img,h.no,h.yes⟩
theorem JZ.len (h:JZ base salt C d nt its) (hb:base≤80):(d.now aQ).length≤170∧(aW its).all.length≤80∧(aW its).f≤81:=by
 have h1:=lK its.length its rfl h.ok;have h2:(aW its).all.length≤base:=by
  have:=gP (K:=(aW its).all.map (·.1)) (L:=List.range base) h.nd fun k hk=>by
   obtain ⟨r,hr,rfl⟩:=List.mem_map.1 hk
   have hm:∀ (l:List It),r ∈ (aW l).all→some r ∈ l:=fun l=>by
    induction hn:l.length generalizing l with
    | zero=> intro hr;rw [List.length_eq_zero_iff] at hn;subst hn;exact absurd hr List.not_mem_nil
    | succ n ih=>
      intro hr;rcases List.eq_nil_or_concat l with rfl | ⟨l',i,rfl⟩
      ·exact absurd hr List.not_mem_nil
      ·rw [List.concat_eq_append] at *;rw [List.length_append,List.length_singleton] at hn;rw [cO] at hr;rw [List.mem_append];cases i with
       | some q=>
         have hr2:r ∈ (aW l').su ++ ((aW l').lo ++ [q]):=hr;rw [← List.append_assoc,List.mem_append,List.mem_singleton] at hr2;rcases hr2 with hr2 | rfl
         ·exact .inl (ih l' (by omega) hr2)
         ·exact .inr (by simp)
       | none=> have hr2:r ∈ ((aW l').su ++ (aW l').lo) ++ []:=hr;rw [List.append_nil] at hr2;exact .inl (ih l' (by omega) hr2)
   exact List.mem_range.2 (h.ok.1 r (hm its hr)).1
  rwa [List.length_map,List.length_range] at this
 have h3:(aW its).all.length=(aW its).su.length+(aW its).lo.length:=by unfold JS.all;rw [List.length_append]
 rw [h.now,gS];omega
theorem JZ.start (h:JZ base salt C d none its):JZ base salt C d (some ⟨base,salt,0,0,[]⟩) its:=by
 have e:=h.no rfl;subst e
 exact ⟨h.now,h.has,h.ok,h.nd,h.img,fun h=>(by cases h),fun j hj=>by
  injection hj with hj
  subst hj;exact ⟨rfl,rfl,rfl,rfl,Nat.le_refl _,List.nodup_nil,fun n=>rfl⟩⟩
theorem JZ.hasl (h:JZ base salt C d nt its) (hz:0<its.length):∃ f,d.file aQ=some f:=by
 have:d.has aQ=true:=by rw [h.has];cases its with | nil=>cases hz | cons _ _=>rfl
 obtain ⟨f,h1,-⟩:=ce this;exact ⟨f,h1⟩
structure NoteZ (base salt:Nat) (C:Int→By) (d:Dk) (j:Jn) (its:List It) (n:Nat) (s:By):Prop where
 can:CanNote d j n
 z:Dz (j.noteD d n s)
 jz:JZ base salt C (j.noteD d n s) (some (j.noteJ n)) (its ++ [some (n,s)])
 now:∀ m,m≠aQ→(j.noteD d n s).now m=d.now m
 has:∀ m,m≠aQ→(j.noteD d n s).has m=d.has m
theorem JZ.note {j:Jn} (h:JZ base salt C d (some j) its) (hz:Dz d) (hb:base≤80) {n:Nat} {s:By} (hn:n<base) (hs:s.length=232) (hh:j.has n=false) (hC:1≤n→s=C n):NoteZ base salt C d j its n s:=by
 obtain ⟨y1,y2,y3,y4,y5,y7,y6⟩:=h.yes j rfl;obtain ⟨l1,l2,l3⟩:=h.len hb;have ht:=hz.total;have hfw:=hz.few;have hal:(aW its).all.length=(aW its).su.length+(aW its).lo.length:=by unfold JS.all;rw [List.length_append]
 have eD:j.noteD d n s=d.wr aQ (d.now aQ).length (aI 2 n salt s):=by unfold Jn.noteD;rw [hh,y2];rfl
 have hnow:∀ m,(j.noteD d n s).now m=if m=aQ then d.now aQ ++ [aI 2 n salt s] else d.now m:=fun m=>by
  rw [eD,io hz.ok (Nat.le_refl _),List.take_length,List.drop_eq_nil_of_le (by omega)]
 have hhas:∀ m,(j.noteD d n s).has m=(decide (m=aQ) || d.has m):=fun m=>by rw [eD,gA hz.ok]
 have hni:n ∉ (aW its).all.map (·.1):=by have:=y6 n;rw [hh] at this;exact of_decide_eq_false this.symm
 have eall:(aW (its ++ [some (n,s)])).all=(aW its).all ++ [(n,s)]:=by rw [cO];show (aW its).su ++ ((aW its).lo ++ [(n,s)])=_;rw [← List.append_assoc];rfl
 refine ⟨⟨hz.fine,fun _=>by omega,by rw [hz.room];omega,by omega,by omega,by omega⟩,?_,⟨?_,?_,h.ok.rec_ hn hs,?_,?_,fun h=>(by cases h),fun j' hj'=>?_⟩,fun m hm=>by rw [hnow,if_neg hm],fun m hm=>by rw [hhas,decide_eq_false hm];rfl⟩
 ·have e1:=hnow aQ;have e2:=hnow aA;have e3:=hnow bf;rw [if_pos rfl] at e1;rw [if_neg jn_ne.symm] at e2;rw [if_neg jn_lo.symm] at e3;rw [eD] at e1 e2 e3 ⊢;exact hz.wr (by simp) (bw hs) (by rw [e1,List.length_append,List.length_singleton];omega) (by rw [e2];exact hz.ml) (by rw [e3];exact hz.ll)
 ·rw [hnow,if_pos rfl,h.now,iu];rfl
 ·rw [hhas,decide_eq_true rfl];cases its <;> rfl
 ·rw [eall,List.map_append,List.nodup_append];refine ⟨h.nd,by simp,fun a ha b hb e=>?_⟩;rw [List.map_singleton,List.mem_singleton] at hb;exact hni (by rw [show n=a from (e.trans hb).symm];exact ha)
 ·rw [eall];intro r hr h1;rcases List.mem_append.1 hr with hr | hr
  ·exact h.img r hr h1
  ·rw [List.mem_singleton.1 hr] at h1 ⊢;exact hC h1
 ·have hJ:j.noteJ n={ j with noted:=aX j.noted (n:Int) true,loose:=j.loose+1 }:=by unfold Jn.noteJ;rw [hh];rfl
  injection hj' with hj'
  rw [← hj',hJ];refine ⟨y1,y2,?_,?_,?_,cU y7,fun m=>?_⟩
  ·rw [cO];exact y3
  ·rw [cO];show j.loose+1=((aW its).lo ++ [(n,s)]).length;rw [List.length_append,List.length_singleton,y4]
  ·rw [eall,List.length_append,List.length_singleton];exact Nat.le_trans eR (Nat.succ_le_succ y5)
  ·rw [eall,List.map_append];show (aC (aX j.noted (n:Int) true) (m:Int)).getD false=_;rw [bP y7];by_cases e:m=n
   ·subst e;rw [if_pos rfl,decide_eq_true (by simp)];rfl
   ·rw [if_neg (by omega)];refine (y6 m).trans (decide_eq_decide.2 ?_);simp [e]
structure SealZ (base salt:Nat) (C:Int→By) (d:Dk) (j:Jn) (its:List It):Prop where
 can:CanSeal d j
 z:Dz (j.sealD d)
 jz:∃ its',JZ base salt C (j.sealD d) (some j.sealJ) its'∧(aW its').all=(aW its).all∧(aW its').lo=[]∧0<(aW its').f
 now:∀ m,m≠aQ→(j.sealD d).now m=d.now m
 has:∀ m,m≠aQ→(j.sealD d).has m=d.has m
theorem JZ.seal {j:Jn} (h:JZ base salt C d (some j) its) (hz:Dz d) (hb:base≤80):SealZ base salt C d j its:=by
 obtain ⟨y1,y2,y3,y4,y5,y7,y6⟩:=h.yes j rfl;obtain ⟨l1,l2,l3⟩:=h.len hb;have ht:=hz.total;have hfw:=hz.few;have hal:(aW its).all.length=(aW its).su.length+(aW its).lo.length:=by unfold JS.all;rw [List.length_append]
 have hcan:CanSeal d j:=⟨hz.fine,fun _=>by omega,by rw [hz.room];omega,fun hl=>h.hasl (by
  have:=(lK its.length its rfl h.ok).1;omega),by omega⟩
 by_cases hq:0<j.feet∧j.loose=0
 ·have e1:j.sealD d=d:=by unfold Jn.sealD;rw [if_pos hq]
  have e2:j.sealJ=j:=by unfold Jn.sealJ;rw [if_pos hq]
  rw [y3,y4] at hq;refine ⟨hcan,by rw [e1];exact hz,⟨its,by rw [e1,e2];exact h,rfl,List.length_eq_zero_iff.1 hq.2,hq.1⟩,fun m _=>by rw [e1],fun m _=>by rw [e1]⟩
 ·obtain ⟨d1,hd1⟩:∃ d1,(if 0<j.loose then d.setF aQ Fi.settle else d)=d1:=⟨_,rfl⟩;have hz1:Dz d1:=by rw [← hd1];split;exact hz.settle (by simp);exact hz
  have hn1:∀ m,d1.now m=d.now m:=fun m=>by rw [← hd1];split;exact bG hz.ok;rfl
  have hh1:∀ m,m≠aQ→d1.has m=d.has m:=fun m hm=>by
   rw [← hd1];split
   ·rw [cQ hz.ok,decide_eq_false hm];rfl
   ·rfl
  have eD:j.sealD d=(d1.wr aQ (d1.now aQ).length (aI 3 (aW its).lo.length salt (bB base (aW its).f))).setF aQ Fi.settle:=by unfold Jn.sealD;rw [if_neg hq];rw [← hd1];simp only [y1,y2,y3,y4];rfl
  have eJ:j.sealJ={ j with feet:=j.feet+1,loose:=0 }:=by unfold Jn.sealJ;rw [if_neg hq]
  obtain ⟨d2,hd2⟩:∃ d2,d1.wr aQ (d1.now aQ).length (aI 3 (aW its).lo.length salt (bB base (aW its).f))=d2:=⟨_,rfl⟩
  have hn2:∀ m,d2.now m=if m=aQ then d.now aQ ++ [aI 3 (aW its).lo.length salt (bB base (aW its).f)] else d.now m:=fun m=>by
   rw [← hd2,io hz1.ok (Nat.le_refl _),List.take_length,List.drop_eq_nil_of_le (by omega),hn1,hn1]
  have hh2:∀ m,d2.has m=(decide (m=aQ) || d1.has m):=fun m=>by rw [← hd2,gA hz1.ok]
  have hz2:Dz d2:=by have e1:=hn2 aQ;have e2:=hn2 aA;have e3:=hn2 bf;rw [if_pos rfl] at e1;rw [if_neg jn_ne.symm] at e2;rw [if_neg jn_lo.symm] at e3;rw [← hd2] at e1 e2 e3 ⊢;exact hz1.wr (by simp) (bw (eY _ _)) (by rw [e1,List.length_append,List.length_singleton];omega) (by rw [e2];exact hz.ml) (by rw [e3];exact hz.ll)
  rw [hd2] at eD;have ej:aW (its ++ [none])=⟨(aW its).f+1,(aW its).su ++ (aW its).lo,[]⟩:=cO _ _;have eall:(aW (its ++ [none])).all=(aW its).all:=by rw [ej];exact List.append_nil _
  refine ⟨hcan,by rw [eD];exact hz2.settle (by simp),⟨its ++ [none],⟨?_,?_,h.ok.foot ?_,?_,?_,fun h=>(by cases h),fun j' hj'=>?_⟩,eall,by rw [ej],by rw [ej];exact Nat.succ_pos _⟩,fun m hm=>by rw [eD,bG hz2.ok,hn2,if_neg hm],fun m hm=>by rw [eD,cQ hz2.ok,decide_eq_false hm,hh2,decide_eq_false hm];exact hh1 m hm⟩
  ·rw [eD,bG hz2.ok,hn2,if_pos rfl,h.now,iu];rfl
  ·rw [eD,cQ hz2.ok,decide_eq_true rfl];cases its <;> rfl
  ·rw [y3,y4] at hq;by_cases h0:(aW its).f=0
   ·exact .inl h0
   ·refine .inr fun e=>hq ⟨by omega,by rw [e];rfl⟩
  ·rw [eall];exact h.nd
  ·rw [eall];exact h.img
  ·injection hj' with hj'
   rw [← hj',eJ];refine ⟨y1,y2,by rw [ej,← y3],by rw [ej];rfl,by rw [eall];exact y5,y7,fun m=>?_⟩;rw [eall];exact y6 m
end
end Go.Proofs.YtdmhbgpejppbkaaGreat
namespace Go.Proofs.YtdmhbgpejppbkaaGreat
open Go.RowKit
abbrev Ft:=Nat × By × Bool
def mH (l:List Ft):List Fr:=l.foldl (fun a x=>cE a x.1 x.2.1 x.2.2) []
theorem iW (l:List Ft) (x:Ft):mH (l ++ [x])=cE (mH l) x.1 x.2.1 x.2.2:=by unfold mH;rw [List.foldl_append];rfl
def eI:List Fr→List Ft→List By
 | _,[]=>[]
 | a,x :: r=>dO a x.1 x.2.1 x.2.2 :: eI (cE a x.1 x.2.1 x.2.2) r
theorem lp (x:Ft):∀ (l:List Ft) (a:List Fr),eI a (l ++ [x])=eI a l ++ [dO (l.foldl (fun a x=>cE a x.1 x.2.1 x.2.2) a) x.1 x.2.1 x.2.2]
 | [],_=>rfl
 | y :: l,a=>by
   show dO a y.1 y.2.1 y.2.2 :: eI (cE a y.1 y.2.1 y.2.2) (l ++ [x])=_;rw [lp x l];rfl
theorem eT:∀ (l:List Ft) (a:List Fr),(eI a l).length=l.length
 | [],_=>rfl
 | y :: l,a=>by
   show (eI (cE a y.1 y.2.1 y.2.2) l).length+1=l.length+1;rw [eT l]
theorem jG:∀ (l:List Ft) (a:List Fr) (k:Nat) (x:Ft),l[k]?=some x→∃ b,(eI a l)[k]?=some (dO b x.1 x.2.1 x.2.2)
 | [],_,_,_,h=>by cases h
 | y :: l,a,0,x,h=>by
   injection h with h
   subst h;exact ⟨a,rfl⟩
 | y :: l,a,k+1,x,h=>jG l (cE a y.1 y.2.1 y.2.2) k x h
theorem ln:∀ (l:List Ft) (a:List Fr) (k:Nat),(eI a l).take k=eI a (l.take k)
 | [],a,k=>by rw [List.take_nil];exact List.take_nil
 | y :: l,a,0=>rfl
 | y :: l,a,k+1=>by
   show dO a y.1 y.2.1 y.2.2 :: (eI (cE a y.1 y.2.1 y.2.2) l).take k=_;rw [ln l];rfl
theorem cM {α:Type} {p:List α→Prop} (h0:p []) (h1:∀ l x,p l→p (l ++ [x])) (l:List α):p l:=by
 induction hn:l.length generalizing l with
 | zero=>rw [List.length_eq_zero_iff] at hn;rw [hn];exact h0
 | succ n ih=>
   rcases List.eq_nil_or_concat l with rfl | ⟨l',x,rfl⟩
   ·exact h0
   ·rw [List.concat_eq_append] at *;rw [List.length_append,List.length_singleton] at hn;exact h1 l' x (ih l' (by omega))
theorem iX (l:List Ft):(mH l).length=l.length:=by refine cM (p:=fun l=>(mH l).length=l.length) rfl (fun l x h=>?_) l;rw [iW,List.length_append,List.length_singleton];unfold cE;rw [List.length_append,List.length_singleton,h]
theorem wT (l:List Ft) (k:Nat):(mH l).take k=mH (l.take k):=by
 refine cM (p:=fun l=>(mH l).take k=mH (l.take k)) (by rw [List.take_nil];exact List.take_nil) (fun l x h=>?_) l;have hl:=iX l;by_cases hk:k≤l.length
 ·rw [List.take_append_of_le_length hk,← h,iW];unfold cE;rw [List.take_append_of_le_length (by omega)]
 ·rw [List.take_of_length_le (l:=l ++ [x]) (by rw [List.length_append,List.length_singleton];omega),List.take_of_length_le (by rw [iX,List.length_append,List.length_singleton];omega)]
def dp (l:List Ft) (n:Nat):Option By:=l.foldl (fun a x=>if x.1=n then some x.2.1 else a) none
theorem ep (l:List Ft) (x:Ft) (n:Nat):dp (l ++ [x]) n=if x.1=n then some x.2.1 else dp l n:=by unfold dp;rw [List.foldl_append];rfl
theorem gQ (l:List Ft) (x:Ft):bA (mH (l ++ [x]))=aX (bA (mH l)) (x.1:Int) (l.length:Int):=by rw [iW];unfold cE;rw [ir,iX]
theorem lG (l:List Ft):((bA (mH l)).map (·.1)).Nodup:=by refine cM (p:=fun l=>((bA (mH l)).map (·.1)).Nodup) List.nodup_nil (fun l x h=>?_) l;rw [gQ];exact cU h
theorem jH {l:List Ft} {n:Nat} (h:dp l n=none):aC (bA (mH l)) (n:Int)=none:=by
 revert h;refine cM (p:=fun l=>dp l n=none→aC (bA (mH l)) (n:Int)=none) (fun _=>rfl) (fun l x ih h=>?_) l;rw [ep] at h;rw [gQ,bP (lG l)];by_cases e:x.1=n
 ·rw [if_pos e] at h;cases h
 ·rw [if_neg e] at h;rw [if_neg (by omega)];exact ih h
theorem eV {l:List Ft} {n:Nat} {s:By} (h:dp l n=some s):∃ (i:Nat) (c:Bool),aC (bA (mH l)) (n:Int)=some (i:Int)∧l[i]?=some (n,s,c):=by
 revert h;refine cM (p:=fun l=>dp l n=some s→∃ (i:Nat) (c:Bool),aC (bA (mH l)) (n:Int)=some (i:Int)∧l[i]?=some (n,s,c)) (fun h=>(by cases h)) (fun l x ih h=>?_) l;rw [ep] at h;rw [gQ,bP (lG l)];by_cases e:x.1=n
 ·rw [if_pos e] at h;injection h with h
  refine ⟨l.length,x.2.2,by rw [if_pos (by omega)],?_⟩;rw [List.getElem?_append_right (Nat.le_refl _),Nat.sub_self];obtain ⟨a,b,c⟩:=x;simp only at e h;subst e h;rfl
 ·rw [if_neg e] at h;obtain ⟨i,c,h1,h2⟩:=ih h;refine ⟨i,c,by rw [if_neg (by omega)];exact h1,?_⟩;rw [List.getElem?_append_left (cB h2)];exact h2
theorem wt {l:List Ft} {n:Nat} {s:By} (h:dp l n=some s):∃ c,(n,s,c) ∈ l:=by obtain ⟨i,c,-,h2⟩:=eV h;exact ⟨c,List.mem_of_getElem? h2⟩
structure LZ (base:Nat) (C:Int→By) (d:Dk) (l:List Fr) (its:List Ft) (mk:Nat):Prop where
 fr:l=mH its
 ok:∀ x ∈ its,x.1<100∧x.2.1.length=232
 now:(d.has bf=false∧its=[])∨(d.has bf=true∧d.now bf=topB :: eI [] its)
 nj:d.has aQ=false
 top:mk≤its.length
 com:∀ m:Nat,1≤m→m<base→(dp (its.take mk) m=some (C m))∨(dp (its.take mk) m=none∧aF d m (C m))
 ml:0<(d.now aA).length
section
variable {base mk:Nat} {C:Int→By} {d:Dk} {l:List Fr} {its:List Ft}
theorem LZ.has (h:LZ base C d l its mk) {n:Nat} {s:By} (ha:dp its n=some s):LgHas d l n s:=by
 obtain ⟨i,c,h1,h2⟩:=eV ha;have hm:=List.mem_of_getElem? h2;have hil:=cB h2;rcases h.now with ⟨-,e⟩ | ⟨e1,e2⟩
 ·rw [e] at h2;cases h2
 ·obtain ⟨f,f1,f2⟩:=ce e1;obtain ⟨b,hb⟩:=jG its [] i _ h2;refine ⟨⟨i,zF c,mu b,f,by rw [h.fr];exact h1,by rw [h.fr,iX];exact hil,f1,?_⟩,(h.ok _ hm).2⟩;rw [f2,e2,List.getElem?_cons_succ,hb];rfl
theorem LZ.len (h:LZ base C d l its mk):l.length=its.length:=by rw [h.fr,iX]
theorem ee (h:LZ base C d l its mk) {P:Pgr} (hd:P.d=d) (hl:P.lg=some l) {n:Nat} {s:By} (hs:s.length=232):bu P n s↔dp its n=some s∨(dp its n=none∧aF d n s):=by
 rw [eH hl,hd];constructor
 ·rintro (⟨⟨i,k,m,f,h1,h2,h3,h4⟩,-⟩ | ⟨h1,h2⟩)
  ·left;cases ha:dp its n with
   | none=> have:=jH ha;rw [← h.fr,h1] at this;cases this
   | some t=>
     obtain ⟨i',c,k1,k2⟩:=eV ha;rw [← h.fr,h1] at k1;injection k1 with k1
     have:i=i':=Int.natCast_inj.1 k1;subst this;rcases h.now with ⟨e,-⟩ | ⟨e1,e2⟩
     ·rw [has_none.1 e] at h3;cases h3
     ·obtain ⟨f',f1,f2⟩:=ce e1;rw [f1] at h3;injection h3 with h3
      subst h3;obtain ⟨b,hb⟩:=jG its [] i _ k2;rw [f2,e2,List.getElem?_cons_succ,hb] at h4;injection h4 with h4
      have hm:=List.mem_of_getElem? k2;have e3:t=s:=by
       have:=congrArg (List.take 232) h4;unfold dO at this
       rwa [eS (h.ok _ hm).2,eS hs] at this
      rw [e3]
  ·cases ha:dp its n with
   | none=>exact .inr ⟨rfl,h2⟩
   | some t=> obtain ⟨i',c,k1,k2⟩:=eV ha;rw [← h.fr,h1] at k1;cases k1
 ·rintro (h1 | ⟨h1,h2⟩)
  ·exact .inl (h.has h1)
  ·exact .inr ⟨by rw [h.fr];exact jH h1,h2⟩
structure AddZ (base mk:Nat) (C:Int→By) (d:Dk) (l:List Fr) (its:List Ft) (n:Nat) (s:By) (c:Bool):Prop where
 can:CanAdd d l
 z:Dz (dI d l n s c)
 lz:LZ base C (dI d l n s c) (cE l n s c) (its ++ [(n,s,c)]) mk
 now:∀ m,m≠bf→(dI d l n s c).now m=d.now m
 has:∀ m,m≠bf→(dI d l n s c).has m=d.has m
theorem LZ.add (h:LZ base C d l its mk) (hz:Dz d) (hi:its.length<15000) {n:Nat} {s:By} (hn:n<100) (hs:s.length=232) (c:Bool):AddZ base mk C d l its n s c:=by
 have hl:=h.len;have ht:=hz.total;have hfw:=hz.few;have hj:=hz.jl;have hm:=hz.ml;obtain ⟨d1,hd1⟩:∃ d1,fB d=d1:=⟨_,rfl⟩;have hT:Dz d1∧(∀ m,d1.now m=if m=bf then topB :: eI [] its else d.now m)∧(∀ m,m≠bf→d1.has m=d.has m):=by
  rw [← hd1];unfold fB;rcases h.now with ⟨e,e2⟩ | ⟨e1,e2⟩
  ·have e3:(d.file bf).isSome=false:=e;rw [e3];have hn0:=iN e
   have hnow:∀ m,(d.wr bf 0 topB).now m=if m=bf then topB :: eI [] its else d.now m:=fun m=>by
    rw [io hz.ok (by omega),hn0,e2];rfl
   refine ⟨hz.wr (by simp) kG ?_ ?_ ?_,hnow,fun m hm=>?_⟩
   ·rw [hnow,if_neg jn_lo];exact hz.jl
   ·rw [hnow,if_neg ma_lo];exact hz.ml
   ·rw [hnow,if_pos rfl,e2];exact by decide
   ·show (d.wr bf 0 topB).has m=_;rw [gA hz.ok,decide_eq_false hm];rfl
  ·have e3:(d.file bf).isSome=true:=e1;rw [e3];refine ⟨hz,fun m=>?_,fun m _=>rfl⟩;show d.now m=_
   split
   ·rename_i e;rw [e,e2]
   ·rfl
 obtain ⟨hz1,hn1,hh1⟩:=hT;have hlen1:(d1.now bf).length=its.length+1:=by rw [hn1,if_pos rfl,List.length_cons,eT]
 have eD:dI d l n s c=d1.wr bf (its.length+1) (dO l n s c):=by unfold dI;rw [hd1,hl]
 have hnow:∀ m,(dI d l n s c).now m=if m=bf then topB :: eI [] (its ++ [(n,s,c)]) else d.now m:=fun m=>by
  rw [eD,io hz1.ok (by omega)]
  split
  ·rw [← hlen1,List.take_length,List.drop_eq_nil_of_le (by omega),hn1,if_pos rfl,lp,h.fr];rfl
  ·rename_i e;rw [hn1,if_neg e]
 have hhas:∀ m,(dI d l n s c).has m=(decide (m=bf) || d1.has m):=fun m=>by rw [eD,gA hz1.ok]
 have hlo:∀ m,m≠bf→(dI d l n s c).now m=d.now m:=fun m hm=>by rw [hnow,if_neg hm]
 refine ⟨⟨hz.fine,?_,by rw [hz.room];omega,by omega⟩,?_,⟨?_,fun x hx=>?_,.inr ⟨?_,?_⟩,?_,?_,fun m h1 h2=>?_,by rw [hlo aA ma_lo];exact h.ml⟩,hlo,fun m hm=>by rw [hhas,decide_eq_false hm];exact hh1 m hm⟩
 ·rcases h.now with ⟨e,e2⟩ | ⟨e1,e2⟩
  ·exact .inl ⟨has_none.1 e,by rw [h.fr,e2];rfl,by omega⟩
  ·obtain ⟨f,f1,f2⟩:=ce e1;exact .inr ⟨f,f1,by rw [f2,e2,List.length_cons,eT,hl]⟩
 ·have e1:=hnow aQ;have e2:=hnow aA;have e3:=hnow bf;rw [if_neg jn_lo] at e1;rw [if_neg ma_lo] at e2;rw [if_pos rfl] at e3;rw [eD] at e1 e2 e3 ⊢;exact hz1.wr (by simp) (bw hs) (by rw [e1];exact hz.jl) (by rw [e2];exact hz.ml) (by rw [e3,List.length_cons,eT,List.length_append,List.length_singleton];omega)
 ·rw [iW,h.fr]
 ·rcases List.mem_append.1 hx with hx | hx
  ·exact h.ok x hx
  ·rw [List.mem_singleton.1 hx];exact ⟨hn,hs⟩
 ·rw [hhas,decide_eq_true rfl];rfl
 ·rw [hnow,if_pos rfl]
 ·rw [hhas,decide_eq_false jn_lo];exact (hh1 _ jn_lo).trans h.nj
 ·have:=h.top;rw [List.length_append];omega
 ·rw [List.take_append_of_le_length h.top,onDisk_iff,hlo aA ma_lo,← onDisk_iff];exact h.com m h1 h2
structure BackZ (base mk:Nat) (C:Int→By) (d:Dk) (l:List Fr) (its:List Ft):Prop where
 file:mk<l.length→∃ f,d.file bf=some f∧mk+1≤f.now.length
 z:Dz (cp d l mk)
 lz:LZ base C (cp d l mk) (l.take mk) (its.take mk) mk
 now:∀ m,m≠bf→(cp d l mk).now m=d.now m
 has:∀ m,m≠bf→(cp d l mk).has m=d.has m
theorem LZ.back (h:LZ base C d l its mk) (hz:Dz d):BackZ base mk C d l its:=by
 have hl:=h.len;have hmk:=h.top;by_cases hq:mk=l.length
 ·have e:cp d l mk=d:=by unfold cp;rw [if_pos hq]
  have e1:l.take mk=l:=by rw [hq,List.take_length]
  have e2:its.take mk=its:=List.take_of_length_le (by omega);exact ⟨fun hx=>by omega,by rw [e];exact hz,by rw [e,e1,e2];exact h,fun m _=>by rw [e],fun m _=>by rw [e]⟩
 ·have e:cp d l mk=d.setF bf (·.cut (mk+1)):=by unfold cp;rw [if_neg hq]
  have hne:its≠[]:=fun e=>by
   have e0:its.length=0:=by rw [e];rfl
   omega
  rcases h.now with ⟨-,e0⟩ | ⟨e1,e2⟩
  ·exact (hne e0).elim
  ·obtain ⟨f,f1,f2⟩:=ce e1;have hfl:f.now.length=its.length+1:=by rw [f2,e2,List.length_cons,eT]
   have hnow:∀ m,m≠bf→(cp d l mk).now m=d.now m:=fun m hm=>by rw [e,gM hz.ok,if_neg hm]
   have hhas:∀ m,m≠bf→(cp d l mk).has m=d.has m:=fun m hm=>by rw [e,cQ hz.ok,decide_eq_false hm];rfl
   refine ⟨fun _=>⟨f,f1,by omega⟩,by rw [e];exact hz.cut (by simp) _,⟨?_,fun x hx=>h.ok x (List.mem_of_mem_take hx),.inr ⟨?_,?_⟩,?_,?_,fun m h1 h2=>?_,by rw [hnow aA ma_lo];exact h.ml⟩,hnow,hhas⟩
   ·rw [h.fr,wT]
   ·rw [e,cQ hz.ok,decide_eq_true rfl];rfl
   ·rw [e,gM hz.ok,if_pos rfl,e2,List.take_succ_cons,ln]
   ·rw [hhas _ jn_lo];exact h.nj
   ·rw [List.length_take];omega
   ·rw [List.take_take,Nat.min_self,onDisk_iff,hnow aA ma_lo,← onDisk_iff];exact h.com m h1 h2
end
end Go.Proofs.YtdmhbgpejppbkaaGreat
namespace Go.Proofs.YtdmhbgpejppbkaaGreat
open Go.Lib (hid)
open Go.RowKit Go.Maps
structure Pgr.Up (P:Pgr):Prop where
 over:P.over=false
 lost:P.lost=false
 down:P.d.down=false
 life:P.d.life=P.life
def bV (i:Option Bool) (busy:Bool):Int:=match i with
 | none=>0
 | some b=>if b=busy then 0 else 40
theorem gx (w:World) {L:PgL} {P:Pgr} (h:PgIs w L P) (hu:P.Up):
  Calls Tryz.prog 53 #[ai L.gp,.slice none 0 0] w fun e w'=>e=.returned (.int .i64 0)∧Below w.heap.size w w':=by
 cases hb:P.busy
 ·skip;have hC:=ag h.blk;have hl:=hC.lt;have c0:=hC.c0;have c10:=hC.c10;have c11:=hC.c11;have c12:=hC.c12;have c13:=hC.c13;rw [hu.over] at c11;rw [hu.lost] at c12;rw [hb] at c13;have HD:=hid (fun (y:Up w)=>co y.w (h.dk.ch (Ch.of_below (S:=fun _=>False) y.h) (fun _ _ h=>h)));have HL:=hid (fun (y:Up w)=>dn y.w (h.dk.ch (Ch.of_below (S:=fun _=>False) y.h) (fun _ _ h=>h)));rw [hu.down] at HD;rw [hu.life] at HL;unfold ai at *;have HH:=hid h;have HU:=hid hu.lost;clear h hC hu;go_enter Tryz.func53,Tryz.ntmps53;go_upto_region 3 with fail
  refine am (by kernel_rfl) (by kernel_rfl) ?_;have f0:=ay c0 hl;have f10:=ay c10 hl;have f11:=ay c11 hl
  repeat (go_big_quiet_step (first
   | (go_at_call 63;(with_reducible exact bm (HD.out _)))
   | (go_at_call 44;(with_reducible exact bm (HL.out _)))))
  refine wpQuiet_nil ?_;rintro w1 ⟨⟨_,hb1⟩,rfl⟩;have HB1:=hid hb1;have hC:=ag (HH.out.below hb1).blk;have k12:=hC.c12;have k13:=hC.c13;rw [HU.out] at k12;rw [hb] at k13;have kl:=hC.lt;skip;clear hC hb1 c0 c10 c11 c12 c13 f0 f10 f11 HD HL;go_upto_region 14 with fail
  refine am (by kernel_rfl) (by kernel_rfl) ?_;have f13:=ay k13 kl;skip
  repeat (go_big_quiet_step (fail))
  refine wpQuiet_nil ?_;rintro w2 ⟨⟨_,hb2⟩,rfl⟩;have HB2:=hid (HB1.out.trans (hb2.mono HB1.out.size));clear hb2 f13;go_wp2_with fail;go_ret;exact ⟨rfl,HB2.out⟩
 ·skip;have hC:=ag h.blk;have hl:=hC.lt;have c0:=hC.c0;have c10:=hC.c10;have c11:=hC.c11;have c12:=hC.c12;have c13:=hC.c13;rw [hu.over] at c11;rw [hu.lost] at c12;rw [hb] at c13;have HD:=hid (fun (y:Up w)=>co y.w (h.dk.ch (Ch.of_below (S:=fun _=>False) y.h) (fun _ _ h=>h)));have HL:=hid (fun (y:Up w)=>dn y.w (h.dk.ch (Ch.of_below (S:=fun _=>False) y.h) (fun _ _ h=>h)));rw [hu.down] at HD;rw [hu.life] at HL;unfold ai at *;have HH:=hid h;have HU:=hid hu.lost;clear h hC hu;go_enter Tryz.func53,Tryz.ntmps53;go_upto_region 3 with fail
  refine am (by kernel_rfl) (by kernel_rfl) ?_;have f0:=ay c0 hl;have f10:=ay c10 hl;have f11:=ay c11 hl
  repeat (go_big_quiet_step (first
   | (go_at_call 63;(with_reducible exact bm (HD.out _)))
   | (go_at_call 44;(with_reducible exact bm (HL.out _)))))
  refine wpQuiet_nil ?_;rintro w1 ⟨⟨_,hb1⟩,rfl⟩;have HB1:=hid hb1;have hC:=ag (HH.out.below hb1).blk;have k12:=hC.c12;have k13:=hC.c13;rw [HU.out] at k12;rw [hb] at k13;have kl:=hC.lt;skip;clear hC hb1 c0 c10 c11 c12 c13 f0 f10 f11 HD HL;go_upto_region 14 with fail
  refine am (by kernel_rfl) (by kernel_rfl) ?_;have f13:=ay k13 kl;skip
  repeat (go_big_quiet_step (fail))
  refine wpQuiet_nil ?_;rintro w2 ⟨⟨_,hb2⟩,rfl⟩;have HB2:=hid (HB1.out.trans (hb2.mono HB1.out.size));clear hb2 f13;go_wp2_with fail;go_ret;exact ⟨rfl,HB2.out⟩
theorem ak (b:Bool) (g:Nat) (w:World) {L:PgL} {P:Pgr} (h:PgIs w L P) (hu:P.Up) (ca:w.cell? ⟨g,0,none⟩=some (.bool b)) (cg:g<w.heap.size):
  Calls Tryz.prog 53 #[ai L.gp,.slice (some ⟨g,0,none⟩) 1 1] w fun e w'=>e=.returned (.int .i64 (bV (some b) P.busy))∧Below w.heap.size w w':=by
 cases hb:P.busy <;> cases b
 ·skip;have hC:=ag h.blk;have hl:=hC.lt;have c0:=hC.c0;have c10:=hC.c10;have c11:=hC.c11;have c12:=hC.c12;have c13:=hC.c13;rw [hu.over] at c11;rw [hu.lost] at c12;rw [hb] at c13;have HD:=hid (fun (y:Up w)=>co y.w (h.dk.ch (Ch.of_below (S:=fun _=>False) y.h) (fun _ _ h=>h)));have HL:=hid (fun (y:Up w)=>dn y.w (h.dk.ch (Ch.of_below (S:=fun _=>False) y.h) (fun _ _ h=>h)));rw [hu.down] at HD;rw [hu.life] at HL;unfold ai at *;have HH:=hid h;have HU:=hid hu.lost;clear h hC hu;go_enter Tryz.func53,Tryz.ntmps53;go_upto_region 3 with fail
  refine am (by kernel_rfl) (by kernel_rfl) ?_;have f0:=ay c0 hl;have f10:=ay c10 hl;have f11:=ay c11 hl
  repeat (go_big_quiet_step (first
   | (go_at_call 63;(with_reducible exact bm (HD.out _)))
   | (go_at_call 44;(with_reducible exact bm (HL.out _)))))
  refine wpQuiet_nil ?_;rintro w1 ⟨⟨_,hb1⟩,rfl⟩;have HB1:=hid hb1;have hC:=ag (HH.out.below hb1).blk;have k12:=hC.c12;have k13:=hC.c13;rw [HU.out] at k12;rw [hb] at k13;have kl:=hC.lt;have ka:=(hb1.cell (p:=⟨g,0,none⟩) cg).trans ca;have kg:=Nat.lt_of_lt_of_le cg hb1.size;clear hC hb1 c0 c10 c11 c12 c13 f0 f10 f11 HD HL;go_upto_region 14 with fail
  refine am (by kernel_rfl) (by kernel_rfl) ?_;have f13:=ay k13 kl;have fa:=ay ka kg
  repeat (go_big_quiet_step (fail))
  refine wpQuiet_nil ?_;rintro w2 ⟨⟨_,hb2⟩,rfl⟩;have HB2:=hid (HB1.out.trans (hb2.mono HB1.out.size));clear hb2 f13;go_wp2_with fail;go_ret;exact ⟨rfl,HB2.out⟩
 ·skip;have hC:=ag h.blk;have hl:=hC.lt;have c0:=hC.c0;have c10:=hC.c10;have c11:=hC.c11;have c12:=hC.c12;have c13:=hC.c13;rw [hu.over] at c11;rw [hu.lost] at c12;rw [hb] at c13;have HD:=hid (fun (y:Up w)=>co y.w (h.dk.ch (Ch.of_below (S:=fun _=>False) y.h) (fun _ _ h=>h)));have HL:=hid (fun (y:Up w)=>dn y.w (h.dk.ch (Ch.of_below (S:=fun _=>False) y.h) (fun _ _ h=>h)));rw [hu.down] at HD;rw [hu.life] at HL;unfold ai at *;have HH:=hid h;have HU:=hid hu.lost;clear h hC hu;go_enter Tryz.func53,Tryz.ntmps53;go_upto_region 3 with fail
  refine am (by kernel_rfl) (by kernel_rfl) ?_;have f0:=ay c0 hl;have f10:=ay c10 hl;have f11:=ay c11 hl
  repeat (go_big_quiet_step (first
   | (go_at_call 63;(with_reducible exact bm (HD.out _)))
   | (go_at_call 44;(with_reducible exact bm (HL.out _)))))
  refine wpQuiet_nil ?_;rintro w1 ⟨⟨_,hb1⟩,rfl⟩;have HB1:=hid hb1;have hC:=ag (HH.out.below hb1).blk;have k12:=hC.c12;have k13:=hC.c13;rw [HU.out] at k12;rw [hb] at k13;have kl:=hC.lt;have ka:=(hb1.cell (p:=⟨g,0,none⟩) cg).trans ca;have kg:=Nat.lt_of_lt_of_le cg hb1.size;clear hC hb1 c0 c10 c11 c12 c13 f0 f10 f11 HD HL;go_upto_region 14 with fail
  refine am (by kernel_rfl) (by kernel_rfl) ?_;have f13:=ay k13 kl;have fa:=ay ka kg
  repeat (go_big_quiet_step (fail))
  refine wpQuiet_nil ?_;rintro w2 ⟨⟨_,hb2⟩,rfl⟩;have HB2:=hid (HB1.out.trans (hb2.mono HB1.out.size));clear hb2 f13;go_wp2_with fail;go_ret;exact ⟨rfl,HB2.out⟩
 ·skip;have hC:=ag h.blk;have hl:=hC.lt;have c0:=hC.c0;have c10:=hC.c10;have c11:=hC.c11;have c12:=hC.c12;have c13:=hC.c13;rw [hu.over] at c11;rw [hu.lost] at c12;rw [hb] at c13;have HD:=hid (fun (y:Up w)=>co y.w (h.dk.ch (Ch.of_below (S:=fun _=>False) y.h) (fun _ _ h=>h)));have HL:=hid (fun (y:Up w)=>dn y.w (h.dk.ch (Ch.of_below (S:=fun _=>False) y.h) (fun _ _ h=>h)));rw [hu.down] at HD;rw [hu.life] at HL;unfold ai at *;have HH:=hid h;have HU:=hid hu.lost;clear h hC hu;go_enter Tryz.func53,Tryz.ntmps53;go_upto_region 3 with fail
  refine am (by kernel_rfl) (by kernel_rfl) ?_;have f0:=ay c0 hl;have f10:=ay c10 hl;have f11:=ay c11 hl
  repeat (go_big_quiet_step (first
   | (go_at_call 63;(with_reducible exact bm (HD.out _)))
   | (go_at_call 44;(with_reducible exact bm (HL.out _)))))
  refine wpQuiet_nil ?_;rintro w1 ⟨⟨_,hb1⟩,rfl⟩;have HB1:=hid hb1;have hC:=ag (HH.out.below hb1).blk;have k12:=hC.c12;have k13:=hC.c13;rw [HU.out] at k12;rw [hb] at k13;have kl:=hC.lt;have ka:=(hb1.cell (p:=⟨g,0,none⟩) cg).trans ca;have kg:=Nat.lt_of_lt_of_le cg hb1.size;clear hC hb1 c0 c10 c11 c12 c13 f0 f10 f11 HD HL;go_upto_region 14 with fail
  refine am (by kernel_rfl) (by kernel_rfl) ?_;have f13:=ay k13 kl;have fa:=ay ka kg
  repeat (go_big_quiet_step (fail))
  refine wpQuiet_nil ?_;rintro w2 ⟨⟨_,hb2⟩,rfl⟩;have HB2:=hid (HB1.out.trans (hb2.mono HB1.out.size));clear hb2 f13;go_wp2_with fail;go_ret;exact ⟨rfl,HB2.out⟩
 ·skip;have hC:=ag h.blk;have hl:=hC.lt;have c0:=hC.c0;have c10:=hC.c10;have c11:=hC.c11;have c12:=hC.c12;have c13:=hC.c13;rw [hu.over] at c11;rw [hu.lost] at c12;rw [hb] at c13;have HD:=hid (fun (y:Up w)=>co y.w (h.dk.ch (Ch.of_below (S:=fun _=>False) y.h) (fun _ _ h=>h)));have HL:=hid (fun (y:Up w)=>dn y.w (h.dk.ch (Ch.of_below (S:=fun _=>False) y.h) (fun _ _ h=>h)));rw [hu.down] at HD;rw [hu.life] at HL;unfold ai at *;have HH:=hid h;have HU:=hid hu.lost;clear h hC hu;go_enter Tryz.func53,Tryz.ntmps53;go_upto_region 3 with fail
  refine am (by kernel_rfl) (by kernel_rfl) ?_;have f0:=ay c0 hl;have f10:=ay c10 hl;have f11:=ay c11 hl
  repeat (go_big_quiet_step (first
   | (go_at_call 63;(with_reducible exact bm (HD.out _)))
   | (go_at_call 44;(with_reducible exact bm (HL.out _)))))
  refine wpQuiet_nil ?_;rintro w1 ⟨⟨_,hb1⟩,rfl⟩;have HB1:=hid hb1;have hC:=ag (HH.out.below hb1).blk;have k12:=hC.c12;have k13:=hC.c13;rw [HU.out] at k12;rw [hb] at k13;have kl:=hC.lt;have ka:=(hb1.cell (p:=⟨g,0,none⟩) cg).trans ca;have kg:=Nat.lt_of_lt_of_le cg hb1.size;clear hC hb1 c0 c10 c11 c12 c13 f0 f10 f11 HD HL;go_upto_region 14 with fail
  refine am (by kernel_rfl) (by kernel_rfl) ?_;have f13:=ay k13 kl;have fa:=ay ka kg
  repeat (go_big_quiet_step (fail))
  refine wpQuiet_nil ?_;rintro w2 ⟨⟨_,hb2⟩,rfl⟩;have HB2:=hid (HB1.out.trans (hb2.mono HB1.out.size));clear hb2 f13;go_wp2_with fail;go_ret;exact ⟨rfl,HB2.out⟩
end Go.Proofs.YtdmhbgpejppbkaaGreat
