/- disk: total. disk: Write: a file as rows; what is written stands. disk: a file is laid anew. -/
import Derived.Test.YtdmhbgpejppbkaaGreatXGal
import Derived.Maps.RangeWalk
set_option maxRecDepth 100000
set_option maxHeartbeats 2000000
namespace Go.Proofs.YtdmhbgpejppbkaaGreat
open Go.Lib (hid)
open Go.RowKit Go.Maps
def oQ (d:Dk) (n:By):Nat:=((d.file n).getD .empty).now.length
def jE (d:Dk) (left:Lit→Bool):List By→Nat
 | []=>0
 | n :: l=>(if left (oL n) then oQ d n else 0)+jE d left l
theorem ti {a b:By} (h:oL a=oL b):a=b:=by injection h
theorem ie (a b:By):(oL a).sameKey (oL b)=decide (a=b):=by
 by_cases e:a=b
 ·subst e;rw [decide_eq_true rfl];exact WideAt.sameKey_self trivial
 ·rw [decide_eq_false e];exact sameKey_ne fun h=>e (ti h)
theorem lm {d:Dk} {left:Lit→Bool} {n:By}:∀ {l:List By},n ∉ l→jE d (fun z=>left z && !z.sameKey (oL n)) l=jE d left l
 | [],_=>rfl
 | a :: l,h=>by
   rw [List.mem_cons,not_or] at h;unfold jE;rw [lm h.2,ie,decide_eq_false (fun e=>h.1 e.symm)];simp
theorem nh {d:Dk} {left:Lit→Bool} {n:By}:∀ {l:List By},l.Nodup→n ∈ l→left (oL n)=true→jE d left l=jE d (fun z=>left z && !z.sameKey (oL n)) l+oQ d n
 | [],_,h,_=>by cases h
 | a :: l,hn,h,hl=>by
   obtain ⟨h1,h2⟩:=List.nodup_cons.1 hn;unfold jE;rcases List.mem_cons.1 h with rfl | h
   ·rw [lm h1,hl,ie,decide_eq_true rfl];simp;omega
   ·rw [nh h2 h hl,ie,decide_eq_false (fun e:a=n=>h1 (by rw [e];exact h))];simp;omega
theorem qp {d:Dk} {left:Lit→Bool}:∀ {l:List By},(∀ n ∈ l,left (oL n)=true)→jE d left l=(l.map (oQ d)).sum
 | [],_=>rfl
 | a :: l,h=>by
   unfold jE;rw [h a List.mem_cons_self,if_pos rfl,qp fun n hn=>h n (List.mem_cons_of_mem _ hn)];simp
theorem ni {d:Dk} {left:Lit→Bool} (h:∀ k,left k=false):∀ l:List By,jE d left l=0
 | []=>rfl
 | a :: l=>by unfold jE;rw [h,ni h l];rfl
theorem jX {d:Dk} (h:d.Ok):d.total=((d.files.map (·.1)).map (oQ d)).sum:=by
 unfold Dk.total;rw [List.map_map];congr 1;refine List.map_congr_left fun p hp=>?_
 have:d.file p.1=some p.2:=ci h.nd hp;simp only [Function.comp,oQ,this,Option.getD_some]
theorem px {d:Dk} (h:d.Ok):d.total≤800000:=by
 have h1:∀ l:List (By × Fi),(∀ p ∈ l,p.2.Ok)→(l.map fun p=>p.2.now.length).sum≤l.length * 100000:=fun l=>by
  induction l with
  | nil=>simp
  | cons a l ih=>
    intro hl;have h2:=ih fun p hp=>hl p (List.mem_cons_of_mem _ hp)
    have h3:=(hl a List.mem_cons_self).n;simp only [List.map_cons,List.sum_cons,List.length_cons];omega
 have h2:=h1 d.files h.fok;have h3:=h.few;unfold Dk.total;omega
theorem tP (w:World) {L:DkM} {d:Dk} (h:DkIs w L d):
  Calls Tryz.prog 251 #[.pointer (some ⟨L.gd,0,none⟩)] w fun e w'=>e=.returned (.int .i64 d.total)∧Below w.heap.size w w':=by
 obtain ⟨D,hown,hm⟩:=h.map;obtain ⟨ops,hb⟩:=h.blk;obtain ⟨c0,c1,c2,c3,c4,c5,c6,c7,hlt,-⟩:=bH hb;have HH:=hid h;have HM:=hid hm;have hle:=px h.ok;have HT:=hid (jX h.ok);clear h hb hm;go_enter Tryz.func251,Tryz.ntmps251;go_wp2_with (first
  | (at_range;refine wpList_range_own _ rfl _ 67 rfl 9 82 fmT.law Tryz.underlying67 ga L.gm L.K.length _ rfl hown ?_;intro w0 hrg0 hg0 hs0)
  | go_in)
 have HB0:=hid (show Below w.heap.size w w0 from ⟨hg0.os,hg0.tape,hg0.output,hg0.size,fun k hk=>hg0.block k hk (by simp)⟩);have HR0:=hid hrg0;clear hrg0 hg0 hs0 c0 c1 c2 c3 c4 c5 c6 c7;go_frame
 go_loopw [3,5] (fun nv fv wr=>∃ (n:Nat) (left:Lit→Bool) (cnt:Nat),nv=.int .i64 n∧n+jE d left (L.K.map (·.1))=d.total∧wr.ranges Tryz.prog 9 ga L.gm w.heap.size L.K.length D left cnt∧Below w.heap.size w wr)
  (fun _ _ wr=>wr.rangeLeft L.gm w.heap.size)
 case atStart=> refine ⟨0,_,_,rfl,?_,HR0.out,HB0.out⟩;rw [HT.out,HH.out.fls,qp fun n hn=>?_,Nat.zero_add];obtain ⟨p,hp,rfl⟩:=List.mem_map.1 hn;exact has_true_of_atKey fun z=>HM.out.yes p hp z
 case round=>
  obtain ⟨n,left,cnt,rfl,hn,hrg,hb⟩:=hrel;have HN:=hid hn;have HB:=hid hb;have hnle:n≤800000:=by omega
  clear hn hb;go_wp2_with (first
   | (at_next;refine wpList_next_ranges _ rfl _ rfl 9 fmT.law ga cZ (fun o:Option Nat=>mq o) ?kinv ?vinv L.gm w.heap.size L.K.length D left cnt rfl hrg ?done ?more)
   | go_in)
  case kinv=> intro key kl hk;obtain ⟨s,rfl,-,-⟩:=WideMaps.string_of_keyOf Tryz.underlying9 hk;exact ⟨bs s,rfl⟩
  case vinv=>
   intro v y hv;rcases vN hv with rfl | ⟨b,rfl,-⟩
   ·exact ⟨none,rfl⟩
   ·exact ⟨some b,rfl⟩
  case done=>
   intro hc hl;have hn:=HN.out;rw [ni hl] at hn;obtain rfl:n=d.total:=by omega
   go_wp2_with fail;go_ret;exact ⟨rfl,HB.out⟩
  case more=>
   intro x c kl y1 y2 w1 cnt' hkey hlk hv hat hrg1 hlt1 hgr hsz hen;obtain ⟨s,hs,rfl,-⟩:=WideMaps.string_of_keyOf Tryz.underlying9 hkey;obtain rfl:aj x=s:=by injection hs
   have hx:∃ p ∈ L.K,x=p.1:=by
    by_cases hx:∃ p ∈ L.K,x=p.1
    ·exact hx
    ·have h1:=HM.out.no (oL x) (fun p hp e=>hx ⟨p,hp,ti e⟩);have h2:has D (oL x)=true:=has_true_of_atKey hat;rw [h1] at h2;cases h2
   obtain ⟨p,hp,rfl⟩:=hx;have hy:AO p.2=y1:=by have h1:=HM.out.yes p hp (.map []);have h2:=hat (.map []);have h3:D.atKey (oL p.1) (.map [])=y1:=h2;rw [h1] at h3;exact h3
   subst hy;have hce:mq c=ai p.2:=gJ hv;rw [hce] at hen ⊢;have HB1:=hid (show Below w.heap.size w w1 from HB.out.trans ⟨hgr.os,hgr.tape,hgr.output,hgr.size,fun k hk=>hgr.block k (by have:=HB.out.size;omega) (by simp;omega)⟩);obtain ⟨f,hf,hfi⟩:=HH.out.fil p hp;have hfile:d.file p.1=some f:=hf;have hlen:oQ d p.1=f.now.length:=by unfold oQ;rw [hfile];rfl
   have hfi1:=hfi.ch (S:=fun _=>False) (Ch.of_below (show Below w.heap.size w w1 from HB1.out)) (fun _ _ h=>h);obtain ⟨A,cc,hvv⟩:=hfi1.lenV;obtain ⟨b0,-,-,-,hgl,-⟩:=bd hfi1.blk;rw [hvv] at b0;have hst:=nh (d:=d) (left:=left) (n:=p.1) (l:=L.K.map (·.1)) (by rw [← HH.out.fls];exact HH.out.ok.nd) (List.mem_map.2 ⟨p,hp,rfl⟩) hlk;have HN1:=hid (show n+f.now.length+jE d (fun z=>left z && !z.sameKey (oL p.1)) (L.K.map (·.1))=d.total by have:=HN.out;omega);have hfn:=(cD HH.out.ok hfile).n;have hwr:IntKind.i64.wrap ((n:Int)+(f.now.length:Int))=((n+f.now.length:Nat):Int):=by rw [IntKind.wrap_i64] <;> omega
   have HR1:=hid hrg1;have HME:=hid (show w1.rangeLeft L.gm w.heap.size<wr.rangeLeft L.gm w.heap.size by rw [hrg1.left_eq,hrg.left_eq];exact hlt1);clear hfi hfi1 hst hrg1 hrg hvv hf hv hce hat hkey;unfold ai cZ at *;go_wp2_with fail;exact ⟨⟨n+f.now.length,_,cnt',rfl,HN1.out,HR1.out,HB1.out⟩,HME.out⟩
end Go.Proofs.YtdmhbgpejppbkaaGreat
namespace Go.Proofs.YtdmhbgpejppbkaaGreat
open Go.RowKit Go.Maps
structure FilR (w:World) (g:Nat) (vn vs vw:Value) (xs qs:List (Option Nat)) (ws:List Bool) (sure:Bool):Prop where
 blk:w.heap[g]?=some (.cells #[vn,vs,vw,.bool sure] 87 (0,0))
 on:Own pC 1 98 0 w vn xs
 os:Own pC 1 98 0 w vs qs
 ow:Own bC 1 4 0 w vw ws
 g1:vn.ownBlock≠some g
 g2:vs.ownBlock≠some g
 g3:vw.ownBlock≠some g
 d12:Dis vn vs
 d13:Dis vn vw
 d23:Dis vs vw
section
variable {w w':World} {g:Nat} {vn vs vw:Value} {xs qs:List (Option Nat)} {ws:List Bool} {sure:Bool} {C:Nat→Prop} {E:Nat→By} {m:FilM} {f:Fi}
theorem FilIs.raw (h:FilIs w C E g m f):FilR w g m.vn m.vs m.vw (m.ps.map some) m.qs f.waits f.sure:=⟨h.blk,h.on,h.os,h.ow,h.g1,h.g2,h.g3,h.d12,h.d13,h.d23⟩
theorem FilR.is (h:FilR w g vn vs vw xs qs ws sure) {ps:List Nat} (hx:xs=ps.map some) (hp:∀ p ∈ ps,C p) (hq:∀ p,some p ∈ qs→C p):FilIs w C E g ⟨vn,vs,vw,ps,qs⟩ ⟨ps.map E,qs.map (Option.map E),ws,sure⟩:=by subst hx;exact ⟨h.blk,h.on,h.os,h.ow,rfl,rfl,hp,hq,h.g1,h.g2,h.g3,h.d12,h.d13,h.d23⟩
theorem FilR.ch {S:Nat→Prop} (h:FilR w g vn vs vw xs qs ws sure) (hc:Ch S w w') (hn:∀ k,(k=g∨vn.ownBlock=some k∨vs.ownBlock=some k∨vw.ownBlock=some k)→¬ S k):FilR w' g vn vs vw xs qs ws sure:=
 ⟨hc.keep h.blk (hn g (.inl rfl)),h.on.ch hc fun k hk=>hn k (.inr (.inl hk)),h.os.ch hc fun k hk=>hn k (.inr (.inr (.inl hk))),h.ow.ch hc fun k hk=>hn k (.inr (.inr (.inr hk))),h.g1,h.g2,h.g3,h.d12,h.d13,h.d23⟩
theorem WrJ.fin {w5:World} {vl0 vb0 va0 vl1 vb1 va1 vl2 vb2 va2:Value} (h:WrJ w5 g m f true true true true true true true true true true true true vl0 vb0 va0 vl1 vb1 va1 vl2 vb2 va2 w):
  FilR w g va0 va1 va2 (m.ps.map some ++ [none]) (m.qs ++ [none]) (f.waits ++ [false]) f.sure∧Ch (m.own g) w5 w∧∀ k,(k=g∨va0.ownBlock=some k∨va1.ownBlock=some k∨va2.ownBlock=some k)→m.own g k∨w5.heap.size≤k:=by
 obtain ⟨hc,h0,h1,h2,hs,hp⟩:=h;simp only [List.pairwise_cons,List.mem_cons,List.not_mem_nil,or_false,false_imp_iff,implies_true,forall_eq_or_imp,forall_eq,List.Pairwise.nil,and_true] at hp;obtain ⟨⟨p1,p2,p3,-⟩,⟨p4,p5,-⟩,⟨p6,-⟩,-⟩:=hp
 refine ⟨⟨hs _ List.mem_cons_self,hs (ii pC 98 m.vn (m.ps.map some) none true va0) (by simp),hs (ii pC 98 m.vs m.qs none true va1) (by simp),hs (ii bC 4 m.vw f.waits false true va2) (by simp),
  fun e=>p1 g rfl e,fun e=>p2 g rfl e,fun e=>p3 g rfl e,p4,p5,p6⟩,hc,fun k hk=>?_⟩
 rcases hk with rfl | hk | hk | hk
 ·exact .inl (.inl rfl)
 ·exact (h0.na rfl).imp (fun e=>.inr (.inl (e.symm.trans hk))) fun e=>e k hk
 ·exact (h1.na rfl).imp (fun e=>.inr (.inr (.inl (e.symm.trans hk)))) fun e=>e k hk
 ·exact (h2.na rfl).imp (fun e=>.inr (.inr (.inr (e.symm.trans hk)))) fun e=>e k hk
end
theorem fI {α:Type} {f:α→List Value} {e:TypeId} {base:Nat} {w:World} {v:Value} {xs:List α} (h:Own f 1 e base w v xs) (hl:∀ x,(f x).length=1) {i:Nat} (hi:i<xs.length):
  ∃ b c,v=.slice (some ⟨b,0,none⟩) xs.length c∧b<w.heap.size∧(∀ u,f xs[i]=[u]→w.cell? ⟨b,i,none⟩=some u)∧w.frozen? ⟨b,i,none⟩=false:=by
 rcases h.2 with ⟨hv,h0⟩ | ⟨g,cap,cur,hv,hb,hg,hn,hm,hc,ht⟩
 ·omega
 ·refine ⟨g,cap,hv,ab hg,fun u hu=>?_,ah hg i⟩;rw [aa hg i];have h1:=gU f 1 hl xs i xs[i] (List.getElem?_eq_getElem hi) 0 u (by rw [hu];rfl);rw [← ht,List.getElem?_take] at h1
  split at h1
  ·simpa using h1
  ·cases h1
theorem kX {α:Type} {f:α→List Value} {e:TypeId} {base:Nat} {w:World} {b n c:Nat} {xs:List α} (h:Own f 1 e base w (.slice (some ⟨b,0,none⟩) n c) xs) (hl:∀ x,(f x).length=1) {i:Nat} (hi:i<xs.length) (x:α) {u:Value} (hu:f x=[u]):
  Own f 1 e base (w.setCell ⟨b,i,none⟩ u) (.slice (some ⟨b,0,none⟩) n c) (xs.set i x):=by
 have:=h.set hl hi x;rw [hu,Nat.mul_one] at this;exact this
theorem FilR.put {w:World} {g b0 c0 b2 c2 n0 n2 i:Nat} {vs:Value} {xs qs:List (Option Nat)} {ws:List Bool} {sure:Bool} (h:FilR w g (.slice (some ⟨b0,0,none⟩) n0 c0) vs (.slice (some ⟨b2,0,none⟩) n2 c2) xs qs ws sure) (hi:i<xs.length) (hi2:i<ws.length) (s:By)
  {w7:World} (hw:w7=(((w.setCell ⟨b0,i,none⟩ (.pointer (some ⟨w.heap.size,0,none⟩))).setCell ⟨b2,i,none⟩ (.bool true)).alloc (fk s)).drew):
  FilR w7 g (.slice (some ⟨b0,0,none⟩) n0 c0) vs (.slice (some ⟨b2,0,none⟩) n2 c2) (xs.set i (some w.heap.size)) qs (ws.set i true) sure∧w7.heap[w.heap.size]?=some (fk s)∧Ch (fun k=>k=b0∨k=b2) w w7:=by
 subst hw;have hb0:b0<w.heap.size:=(h.on.lt b0 rfl).2;have hb2:b2<w.heap.size:=(h.ow.lt b2 rfl).2;have hne:b0≠b2:=fun e=>h.d13 b0 rfl (by rw [e];rfl)
 have hg0:g≠b0:=fun e=>h.g1 (by rw [e];rfl)
 have hg2:g≠b2:=fun e=>h.g3 (by rw [e];rfl)
 have hc0:Ch (fun k=>k=b0) w (w.setCell ⟨b0,i,none⟩ (.pointer (some ⟨w.heap.size,0,none⟩))):=(Ch.refl (fun k=>k=b0) _).setCell (p:=⟨b0,i,none⟩) rfl _;have hc2:Ch (fun k=>k=b2) (w.setCell ⟨b0,i,none⟩ (.pointer (some ⟨w.heap.size,0,none⟩))) ((w.setCell ⟨b0,i,none⟩ (.pointer (some ⟨w.heap.size,0,none⟩))).setCell ⟨b2,i,none⟩ (.bool true)):=(Ch.refl (fun k=>k=b2) _).setCell (p:=⟨b2,i,none⟩) rfl _;have hsz:((w.setCell ⟨b0,i,none⟩ (.pointer (some ⟨w.heap.size,0,none⟩))).setCell ⟨b2,i,none⟩ (.bool true)).heap.size=w.heap.size:=by simp
 have hcA:Ch (fun _=>False) ((w.setCell ⟨b0,i,none⟩ (.pointer (some ⟨w.heap.size,0,none⟩))).setCell ⟨b2,i,none⟩ (.bool true)) (((w.setCell ⟨b0,i,none⟩ (.pointer (some ⟨w.heap.size,0,none⟩))).setCell ⟨b2,i,none⟩ (.bool true)).alloc (fk s)).drew:=((Ch.refl _ _).alloc _).drew;refine ⟨⟨hcA.keep (hc2.keep (hc0.keep h.blk hg0) hg2) id,?_,?_,?_,h.g1,h.g2,h.g3,h.d12,h.d13,h.d23⟩,?_,?_⟩
 ·exact ((kX h.on cJ hi (some w.heap.size) rfl).ch hc2 fun k hk e=>hne (by injection hk with hk;simp only at hk;omega)).ch hcA fun _ _ h=>h
 ·exact ((h.os.ch hc0 fun k hk e=>h.d12 b0 rfl (by rw [← e];exact hk)).ch hc2 fun k hk e=>h.d23 k hk (by rw [e];rfl)).ch hcA fun _ _ h=>h
 ·exact (kX (h.ow.ch hc0 fun k hk e=>hne (by injection hk with hk;simp only at hk;omega)) gC hi2 true rfl).ch hcA fun _ _ h=>h
 ·exact af hsz.symm
 ·exact ((((Ch.refl (fun k=>k=b0∨k=b2) w).setCell (p:=⟨b0,i,none⟩) (.inl rfl) _).setCell (p:=⟨b2,i,none⟩) (.inr rfl) _).alloc _).drew
end Go.Proofs.YtdmhbgpejppbkaaGreat
namespace Go.Proofs.YtdmhbgpejppbkaaGreat
open Go.RowKit Go.Maps
theorem sZ {f:Fi} {i:Nat} {s:By}:(f.put i s).now.length=if i=f.now.length then f.now.length+1 else f.now.length:=by
 unfold Fi.put
 split <;> simp
theorem vL {f:Fi} (h:f.Ok) {i:Nat} {s:By} (hs:s.length=256) (hn:i=f.now.length→f.now.length<100000):(f.put i s).Ok:=by
 have h1:=h.ls;have h2:=h.lw;have h3:=h.n;unfold Fi.put
 split
 ·rename_i hi
  have:=hn hi;refine ⟨by simp [h1],by simp [h2],fun x hx=>?_,by simp only [List.length_append,List.length_cons,List.length_nil];omega,fun x hx=>h.ssec x (by simpa using hx)⟩;rcases List.mem_append.1 hx with hx | hx
  ·exact h.sec x hx
  ·rw [List.mem_singleton.1 hx];exact hs
 ·refine ⟨by simp [h1],by simp [h2],fun x hx=>?_,by simpa using h3,h.ssec⟩;rcases List.mem_or_eq_of_mem_set hx with hx | rfl
  ·exact h.sec x hx
  ·exact hs
theorem tY {α β:Type} [DecidableEq α] {K:List (α × β)} {a:α} {b:β} (h:a ∈ K.map (·.1)):(aX K a b).length=K.length:=by unfold aX;rw [if_pos h,List.length_map]
theorem fb {d:Dk} (h:d.Ok) {n:By} {f:Fi} (hf:f.Ok) (hn:d.file n=none→d.files.length<8):({ d with files:=aX d.files n f }:Dk).Ok:=by
 refine ⟨cU h.nd,?_,fun p hp=>?_,h.room,h.life,h.at_,h.kind,h.more⟩
 ·by_cases hm:n ∈ d.files.map (·.1)
  ·show (aX d.files n f).length≤8;rw [tY hm];exact h.few
  ·have h1:=hn (eu hm);have h2:=eR (K:=d.files) (a:=n) (b:=f);show (aX d.files n f).length≤8;omega
 ·rcases cy hp with rfl | hp
  ·exact hf
  ·exact h.fok p hp
theorem DkIs.setFile {w w':World} {L:DkM} {d d':Dk} (h:DkIs w L d) {n:By} {g:Nat} {mo m':FilM} {f':Fi} {C':Nat→Prop} {E':Nat→By}
  (hat:((n,g) ∈ L.K∧L.M g=mo)∨(n ∉ L.K.map (·.1)∧∀ k,mo.own g k→¬ L.F k))
  (hc:Ch (fun k=>mo.own g k∨k=L.gm) w w') (hm:pk w' L.gm (aX L.K n g))
  (hC:∀ k,L.C k→C' k) (hE:∀ k,L.C k→E' k=L.E k) (hn1:∀ k,C' k→L.C k∨w.heap.size≤k) (hn2:∀ k,C' k→¬ L.C k→w'.heap[k]?=some (fk (E' k)))
  (hf:FilIs w' C' E' g m' f') (ho:∀ k,m'.own g k→mo.own g k∨w.heap.size≤k) (hd:∀ k,m'.own g k→¬ C' k)
  (hok:d'.Ok) (hfl:d'.files=aX d.files n f') (hb:∀ gm ops,yU gm d' ops=yU gm d ops):
  DkIs w' ⟨L.gd,L.gm,aX L.K n g,C',E',fun k=>if k=g then m' else L.M k⟩ d'∧∀ k,(DkM.mk L.gd L.gm (aX L.K n g) C' E' fun k=>if k=g then m' else L.M k).F k→L.F k∨mo.own g k∨w.heap.size≤k:=by
 have hold:∀ k,mo.own g k→k≠L.gd∧k≠L.gm∧¬ L.C k:=fun k hk=>by
  rcases hat with ⟨h1,rfl⟩ | ⟨-,h1⟩
  ·exact h.fd _ h1 k hk
  ·exact ⟨fun e=>h1 k hk (.inl e),fun e=>h1 k hk (.inr (.inl e)),fun e=>h1 k hk (.inr (.inr (.inl e)))⟩
 have hoth:∀ p ∈ L.K,p.1≠n→p.2≠g∧∀ k,(L.M p.2).own p.2 k→¬ mo.own g k:=fun p hp hpn=>by
  have hno:∀ k,(L.M p.2).own p.2 k→¬ mo.own g k:=fun k hk hk2=>by
   rcases hat with ⟨h1,rfl⟩ | ⟨-,h1⟩
   ·exact h.ff p hp _ h1 (fun e=>hpn (by rw [e])) k hk hk2
   ·exact h1 k hk2 (.inr (.inr (.inr ⟨p,hp,hk⟩)))
  exact ⟨fun e=>hno p.2 (.inl rfl) (e ▸ .inl rfl),hno⟩
 have hmem:∀ p ∈ aX L.K n g,p=(n,g)∨(p ∈ L.K∧p.1≠n):=fun p hp=>by
  by_cases e:p.1=n
  ·left;have h1:=ci hm.nd (show (p.1,p.2) ∈ aX L.K n g from hp);rw [bP h.map.nd,if_pos e] at h1;injection h1 with h1
   rw [← e,h1]
  ·exact .inr ⟨(cy hp).resolve_left (fun e2=>e (by rw [e2])),e⟩
 have hgd:L.gd<w.heap.size:=h.lt (.inl rfl);have hgm:L.gm<w.heap.size:=h.lt (.inr (.inl rfl));have hkC:∀ k,L.C k→k<w.heap.size:=fun k hk=>h.lt (.inr (.inr (.inl hk)))
 have hgC:∀ k,k=L.gd∨k=L.gm→¬ C' k:=fun k hk hk2=>by
  rcases hn1 k hk2 with h1 | h1
  ·rcases hk with rfl | rfl
   ·exact h.cd.1 h1
   ·exact h.cd.2 h1
  ·omega
 have hfi:∀ p ∈ L.K,p.1≠n→∀ k,(L.M p.2).own p.2 k→k<w.heap.size:=fun p hp _ k hk=>h.lt (.inr (.inr (.inr ⟨p,hp,hk⟩)))
 have hmeq:∀ p ∈ L.K,p.1≠n→(if p.2=g then m' else L.M p.2)=L.M p.2:=fun p hp hpn=>if_neg (hoth p hp hpn).1
 refine ⟨⟨hok,?_,hm,?_,?_,?_,h.nm,⟨hgC _ (.inl rfl),hgC _ (.inr rfl)⟩,?_,?_⟩,?_⟩
 ·obtain ⟨ops,hbk⟩:=h.blk;refine ⟨ops,?_⟩;rw [hb]
  exact hc.keep hbk fun e=>by
   rcases e with e | e
   ·exact (hold _ e).1 rfl
   ·exact h.nm e.symm
 ·intro k hk;by_cases hkc:L.C k
  ·show w'.heap[k]?=some (fk (E' k));rw [hE k hkc]
   exact hc.keep (h.cel k hkc) fun e=>by
    rcases e with e | e
    ·exact (hold _ e).2.2 hkc
    ·exact h.cd.2 (e ▸ hkc)
  ·exact hn2 k hk hkc
 ·intro p hp;rcases hmem p hp with rfl | ⟨hp,hpn⟩
  ·exact ⟨f',by unfold Dk.file;rw [hfl,bP h.ok.nd,if_pos rfl],by simp only [if_pos];exact hf⟩
  ·obtain ⟨f,h1,h2⟩:=h.fil p hp;refine ⟨f,by unfold Dk.file at *;rw [hfl,bP h.ok.nd,if_neg hpn];exact h1,?_⟩;show FilIs w' C' E' p.2 (if p.2=g then m' else L.M p.2) f;rw [hmeq p hp hpn]
   exact (h2.ch hc fun k hk e=>by
    rcases e with e | e
    ·exact (hoth p hp hpn).2 k hk e
    ·exact (h.fd p hp k hk).2.1 e).more hC hE
 ·show d'.files.map (·.1)=(aX L.K n g).map (·.1);rw [hfl,jq,jq,h.fls]
 ·intro p hp k hk;show k≠L.gd∧k≠L.gm∧¬ C' k;rcases hmem p hp with rfl | ⟨hp,hpn⟩
  ·have hk:m'.own g k:=by simpa using hk
   refine ⟨?_,?_,hd k hk⟩
   ·rcases ho k hk with h1 | h1
    ·exact (hold k h1).1
    ·omega
   ·rcases ho k hk with h1 | h1
    ·exact (hold k h1).2.1
    ·omega
  ·have hk:(if p.2=g then m' else L.M p.2).own p.2 k:=hk;rw [hmeq p hp hpn] at hk;have h1:=h.fd p hp k hk;refine ⟨h1.1,h1.2.1,fun hk2=>?_⟩;rcases hn1 k hk2 with h3 | h3
   ·exact h1.2.2 h3
   ·have:=hfi p hp hpn k hk;omega
 ·intro p hp q hq hpq k hk hk2;have hk:(if p.2=g then m' else L.M p.2).own p.2 k:=hk;have hk2:(if q.2=g then m' else L.M q.2).own q.2 k:=hk2;rcases hmem p hp with rfl | ⟨hp,hpn⟩
  ·rcases hmem q hq with rfl | ⟨hq,hqn⟩
   ·exact hpq rfl
   ·rw [hmeq q hq hqn] at hk2;simp only [if_pos] at hk;rcases ho k hk with h1 | h1
    ·exact (hoth q hq hqn).2 k hk2 h1
    ·have:=hfi q hq hqn k hk2;omega
  ·rw [hmeq p hp hpn] at hk;rcases hmem q hq with rfl | ⟨hq,hqn⟩
   ·simp only [if_pos] at hk2;rcases ho k hk2 with h1 | h1
    ·exact (hoth p hp hpn).2 k hk h1
    ·have:=hfi p hp hpn k hk;omega
   ·rw [hmeq q hq hqn] at hk2;exact h.ff p hp q hq hpq k hk hk2
 ·intro k hk;rcases hk with hk | hk | hk | ⟨p,hp,hk⟩
  ·exact .inl (.inl hk)
  ·exact .inl (.inr (.inl hk))
  ·rcases hn1 k hk with h1 | h1
   ·exact .inl (.inr (.inr (.inl h1)))
   ·exact .inr (.inr h1)
  ·have hk:(if p.2=g then m' else L.M p.2).own p.2 k:=hk;rcases hmem p hp with rfl | ⟨hp,hpn⟩
   ·simp only [if_pos] at hk;exact .inr (ho k hk)
   ·rw [hmeq p hp hpn] at hk;exact .inl (.inr (.inr (.inr ⟨p,hp,hk⟩)))
section
variable {E E':Nat→By} {C:Nat→Prop} {f:Fi} {ps:List Nat} {qs:List (Option Nat)} {p:Nat} {s:By}
theorem qm {l:List Nat} (hc:∀ k ∈ l,E' k=E k):l.map E'=l.map E:=List.map_congr_left hc
theorem nc {l:List (Option Nat)} (hc:∀ k,some k ∈ l→E' k=E k):l.map (Option.map E')=l.map (Option.map E):=List.map_congr_left fun q hq=>by
 cases q with
 | none=>rfl
 | some k=>exact congrArg some (hc k hq)
theorem yn (h1:f.now=ps.map E) (h2:f.safe=qs.map (Option.map E)) (hw:f.waits.length=f.now.length) (hp:E' p=s) (he:∀ k ∈ ps,E' k=E k) (hq:∀ k,some k ∈ qs→E' k=E k):
  (⟨(ps ++ [p]).map E',(qs ++ [none]).map (Option.map E'),(f.waits ++ [false]).set f.now.length true,f.sure⟩:Fi)=f.put f.now.length s:=by
 unfold Fi.put;rw [if_pos rfl,List.map_append,List.map_append,qm he,nc hq,← h1,← h2,List.set_append_right _ _ (by omega),hw,Nat.sub_self];simp [hp]
theorem ym (h1:f.now=ps.map E) (h2:f.safe=qs.map (Option.map E)) {k:Nat} (hk:k<f.now.length) (hp:E' p=s) (he:∀ k ∈ ps,E' k=E k) (hq:∀ k,some k ∈ qs→E' k=E k):
  (⟨(ps.set k p).map E',qs.map (Option.map E'),f.waits.set k true,f.sure⟩:Fi)=f.put k s:=by
 unfold Fi.put;rw [if_neg (by omega),List.map_set,qm he,nc hq,← h1,← h2,hp]
end
theorem uA {d:Dk} {n:By}:((d.file n).getD .empty).now.length≤d.total:=by
 cases hf:d.file n with
 | none=>exact Nat.zero_le _
 | some f=>
   have h1:=cH hf;unfold Dk.total
   have:∀ l:List (By × Fi),(n,f) ∈ l→f.now.length≤(l.map fun p=>p.2.now.length).sum:=fun l=>by
    induction l with
    | nil=>intro h;cases h
    | cons a l ih=>
      intro h;simp only [List.map_cons,List.sum_cons];rcases List.mem_cons.1 h with rfl | h
      ·simp only;omega
      ·have:=ih h;omega
   exact this _ h1
end Go.Proofs.YtdmhbgpejppbkaaGreat
