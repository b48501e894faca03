/- What is done to pages, as programs; chains and trees as programs, plain. shelf: New, Free. shelf: Free; the calls as programs' steps. A shelf as pages in use and free ones, plain. Chains, plain. What a node stands for, plain. -/
import Derived.Test.YtknioodagnjchaaGreatDoorBGc
import Derived.Deep.RegionHeld3
import Derived.Deep.QuietTactic
import Derived.BigQuiet
set_option maxRecDepth 100000
set_option maxHeartbeats 2000000
namespace Go.Proofs.YtknioodagnjchaaGreatDoor
inductive Pro (α:Type) where
 | pure:α->Pro α
 | fail:Int->Pro α
 | get:Int->(By->Pro α)->Pro α
 | put:Int->By->(Unit->Pro α)->Pro α
 | new:(Int->Pro α)->Pro α
 | free:Int->(Unit->Pro α)->Pro α
def Pro.bind {α β:Type}:Pro α->(α->Pro β)->Pro β
 | .pure a,f=>f a
 | .fail e,_=>.fail e
 | .get n k,f=>.get n fun l=>(k l).bind f
 | .put n d k,f=>.put n d fun u=>(k u).bind f
 | .new k,f=>.new fun n=>(k n).bind f
 | .free n k,f=>.free n fun u=>(k u).bind f
instance:Monad Pro where
 pure:=.pure
 bind:=.bind
inductive Ans (α:Type) where
 | ok:α->Ans α
 | err:Int->Ans α
def br (s:Sf):Int:=if s.left=0 then 11 else if s.h.spare=0/\s.lim<=s.h.pages then 22 else (bH s.h s.B).e
def bR (s:Sf):Int:=if br s=0 then (bH s.h s.B).n else 0
def aJ (s:Sf):Sf:=if br s=0 then { bF s with h:=(bH s.h s.B).h,B:=bN (bH s.h s.B).B (bH s.h s.B).n blankL } else bF s
def cA (s:Sf) (n:Int):Int:=if bt s n≠0 then bt s n else (di s.h s.B n).e
def cX (s:Sf) (n:Int):Sf:=if cA s n=0 then { bF s with h:=(di s.h s.B n).h,B:=(di s.h s.B n).B } else bF s
def Pro.run {α:Type}:Pro α->Sf->Sf × Ans α
 | .pure a,s=>(s,.ok a)
 | .fail e,s=>(s,.err e)
 | .get n k,s=>if bt s n=0 then (k (s.B n)).run (bF s) else (bF s,.err (bt s n))
 | .put n d k,s=>if kV s n d=0 then (k ()).run (kU s n d) else (kU s n d,.err (kV s n d))
 | .new k,s=>if br s=0 then (k (bR s)).run (aJ s) else (aJ s,.err (br s))
 | .free n k,s=>if cA s n=0 then (k ()).run (cX s n) else (cX s n,.err (cA s n))
theorem run_bind {α β:Type}:∀ (p:Pro α) (f:α->Pro β) (s:Sf),(p.bind f).run s=match (p.run s).2 with
  | .ok a=>(f a).run (p.run s).1
  | .err e=>((p.run s).1,.err e)
 | .pure a,f,s=>rfl
 | .fail e,f,s=>rfl
 | .get n k,f,s=>by
   simp only [Pro.bind,Pro.run]
   split
   ·exact run_bind _ f _
   ·rfl
 | .put n d k,f,s=>by
   simp only [Pro.bind,Pro.run]
   split
   ·exact run_bind _ f _
   ·rfl
 | .new k,f,s=>by
   simp only [Pro.bind,Pro.run]
   split
   ·exact run_bind _ f _
   ·rfl
 | .free n k,f,s=>by
   simp only [Pro.bind,Pro.run]
   split
   ·exact run_bind _ f _
   ·rfl
theorem ah {α β:Type} {p:Pro α} {f:α->Pro β} {s s1:Sf} {a:α} (h:p.run s=(s1,.ok a)):(p.bind f).run s=(f a).run s1:=by rw [run_bind,h]
theorem aq {α β:Type} {p:Pro α} {f:α->Pro β} {s s1:Sf} {e:Int} (h:p.run s=(s1,.err e)):(p.bind f).run s=(s1,.err e):=by rw [run_bind,h]
def cV (l:By):Bool:=l.all (· == 0)
def fb (part:By) (next:Int):By:=3 :: (aR 4 next.toNat ++ part ++ List.replicate (227 - part.length) 0)
def jD (v:By):Nat->Int->Pro Int
 | 0,next=>.pure next
 | j+1,next=>.new fun n=>.put n (fb ((v.drop (j * 227)).take 227) next) fun _=>jD v j n
def cy (v:By):Pro Ce:=
 if 5000<v.length then .fail 47
 else if v.length<=40 then .pure ⟨v.length,v,0⟩
 else (jD v ((v.length - 1) / 227+1) 0).bind fun p=>.pure ⟨v.length,[],p⟩
def gx (l:By) (left:Nat):Option (Int × By):=
 if l.getD 0 0=3/\((cw ((l.drop 1).take 4)=0)↔left<=227)/\cV ((l.drop 5).drop left)=true then some (cw ((l.drop 1).take 4),(l.drop 5).take left) else none
def ma:Nat->Nat->Int->Pro (By × List Int)
 | 0,_,_=>.pure ([],[])
 | f+1,left,at_=>if left=0 then .pure ([],[]) else .get at_ fun l=>match gx l left with
   | none=>.fail 30
   | some (next,part)=>(ma f (left - 227) next).bind fun r=>.pure (part ++ r.1,at_ :: r.2)
def bB (c:Ce):Pro (By × List Int):=if aI c=false then .fail 1 else if c.page=0 then .pure (c.data,[]) else ma 23 c.size.toNat c.page
def eT:List Int->Pro Unit
 | []=>.pure ()
 | n :: l=>.free n fun _=>eT l
def cM (c:Ce):Pro Unit:=(bB c).bind fun r=>eT r.2
def bl (at_:Int):Pro Nd:=.get at_ fun l=>match dO l with
 | none=>.fail 30
 | some n=>.pure n
def aE (at_:Int) (n:Nd):Pro Unit:=if aD n=false\/232<(aw n).length then .fail 30 else .put at_ (aK (aw n)) .pure
def makeT:Pro Int:=.new fun n=>(aE n ⟨true,[],[],[]⟩).bind fun _=>.pure n
def cj (ks:List By) (k:By):Nat:=(ks.takeWhile fun x=>bM x k).length
def jT (ks:List By) (k:By):Bool:=decide (ks[cj ks k]?=some k)
def cK (n:Nd) (k:By):Nat:=if jT n.keys k then cj n.keys k+1 else cj n.keys k
def oC (n:Nd) (k:By):Pro (Option By):=if jT n.keys k then (bB (n.cells.getD (cj n.keys k) ⟨0,[],0⟩)).bind fun r=>.pure (some r.1) else .pure none
def ex:Nat->Int->By->Pro (Option By)
 | 0,_,_=>.fail 30
 | f+1,at_,k=>(bl at_).bind fun n=>if n.leaf then oC n k else ex f (n.kids.getD (cK n k) 0) k
def bf (n:Nd):Nat:=if !n.leaf && n.keys.isEmpty then 0 else iP n
def bw (n:Nd):Bool:=decide (bf n<=232)
def aS (n:Nd) (i:Nat):Nd × By × Nd:=
 if n.leaf then (⟨true,n.keys.take i,n.cells.take i,[]⟩,n.keys.getD i [],⟨true,n.keys.drop i,n.cells.drop i,[]⟩)
 else (⟨false,n.keys.take i,[],n.kids.take (i+1)⟩,n.keys.getD i [],⟨false,n.keys.drop (i+1),[],n.kids.drop (i+1)⟩)
def ei (x:Nd × By × Nd):Bool:=decide (bf x.1≠0) && decide (bf x.2.2≠0) && bw x.1 && bw x.2.2
def jP (x:Nd × By × Nd):Nat:=max (bf x.1) (bf x.2.2)
def bZ (n:Nd):Nat->Option (Nd × By × Nd)
 | 0=>none
 | k+1=>if ei (aS n (k+1)) then match bZ n k with
     | none=>some (aS n (k+1))
     | some b=>if jP (aS n (k+1))<jP b then some (aS n (k+1)) else some b
   else bZ n k
def dk (n:Nd):Nd × By × Nd:=(bZ n (n.keys.length - 1)).getD (Nd.zero,[],Nd.zero)
def bP (l:Nd) (b:By) (r:Nd):Nd:=⟨l.leaf,l.keys ++ (if l.leaf then [] else [b]) ++ r.keys,l.cells ++ r.cells,l.kids ++ r.kids⟩
def eh (n:Nd) (i:Nat) (c:Nd):Pro Nd:=.new fun at_=>(aE (n.kids.getD i 0) (dk c).1).bind fun _=>(aE at_ (dk c).2.2).bind fun _=>
 .pure { n with keys:=n.keys.insertIdx i (dk c).2.1,kids:=n.kids.insertIdx (i+1) at_ }
def dh (n:Nd) (i:Nat) (l r:Nd):Pro Nd:=
 if bw (bP l (n.keys.getD i []) r) then (aE (n.kids.getD i 0) (bP l (n.keys.getD i []) r)).bind fun _=>
  .free (n.kids.getD (i+1) 0) fun _=>.pure { n with keys:=n.keys.eraseIdx i,kids:=n.kids.eraseIdx (i+1) }
 else (aE (n.kids.getD i 0) (dk (bP l (n.keys.getD i []) r)).1).bind fun _=>(aE (n.kids.getD (i+1) 0) (dk (bP l (n.keys.getD i []) r)).2.2).bind fun _=>
  .pure { n with keys:=n.keys.set i (dk (bP l (n.keys.getD i []) r)).2.1 }
def gO (c:Nd):Bool:=(c.leaf && !c.keys.isEmpty && !bw c) || (!c.leaf && !bw c)
def bg (n:Nd) (i:Nat) (c:Nd):Pro Nd:=
 if gO c then eh n i c
 else if 77<=bf c then (aE (n.kids.getD i 0) c).bind fun _=>.pure n
 else if 0<i then (bl (n.kids.getD (i - 1) 0)).bind fun l=>if l.leaf=c.leaf then dh n (i - 1) l c else .fail 30
 else (bl (n.kids.getD 1 0)).bind fun r=>if r.leaf=c.leaf then dh n 0 c r else .fail 30
def aY (act:Nd->Pro (Option Nd)) (k:By):Nat->Int->Pro (Option Nd)
 | f,at_=>(bl at_).bind fun n=>if n.leaf then act n else match f with
   | 0=>.fail 30
   | f+1=>(aY act k f (n.kids.getD (cK n k) 0)).bind fun o=>match o with
     | none=>.pure none
     | some c=>(bg n (cK n k) c).bind fun n'=>.pure (some n')
def fN (at_:Int) (n:Nd):Pro Unit:=
 if bw n then aE at_ n else .new fun only=>(eh ⟨false,[],[],[only]⟩ 0 n).bind fun t=>aE at_ t
def dR:Nat->Int->Nd->Pro Unit
 | 0,at_,n=>fN at_ n
 | f+1,at_,n=>if !n.leaf && n.keys.isEmpty then (bl (n.kids.getD 0 0)).bind fun c=>.free (n.kids.getD 0 0) fun _=>dR f at_ c else fN at_ n
def cJ (act:Nd->Pro (Option Nd)) (at_:Int) (k:By):Pro Bool:=(aY act k 19 at_).bind fun o=>match o with
 | none=>.pure false
 | some n=>(dR 1 at_ n).bind fun _=>.pure true
def aP (k v:By) (n:Nd):Pro (Option Nd):=
 if jT n.keys k then (cM (n.cells.getD (cj n.keys k) ⟨0,[],0⟩)).bind fun _=>(cy v).bind fun c=>.pure (some { n with cells:=n.cells.set (cj n.keys k) c })
 else (cy v).bind fun c=>.pure (some { n with keys:=n.keys.insertIdx (cj n.keys k) k,cells:=n.cells.insertIdx (cj n.keys k) c })
def aT (k:By) (n:Nd):Pro (Option Nd):=
 if jT n.keys k then (cM (n.cells.getD (cj n.keys k) ⟨0,[],0⟩)).bind fun _=>.pure (some { n with keys:=n.keys.eraseIdx (cj n.keys k),cells:=n.cells.eraseIdx (cj n.keys k) })
 else .pure none
def dS (at_:Int) (k v:By):Pro Unit:=if 64<k.length then .fail 1 else if 5000<v.length then .fail 47 else (cJ (aP k v) at_ k).bind fun _=>.pure ()
def kz (at_:Int) (k:By):Pro Bool:=cJ (aT k) at_ k
def eU:List Ce->List Int->Pro (List Int)
 | [],out=>.pure out
 | c :: cs,out=>(bB c).bind fun r=>eU cs (out ++ r.2)
def bL:Nat->Int->List Int->Pro (List Int)
 | 0,at_,_=>(bl at_).bind fun _=>.fail 30
 | f+1,at_,out=>(bl at_).bind fun n=>if 4096<=out.length then .fail 30 else
   (eU n.cells (out ++ [at_])).bind fun o=>n.kids.foldl (fun p k=>p.bind fun o=>bL f k o) (.pure o)
def iG (root:Int):Pro (List Int):=bL 20 root []
def hX (root:Int):Pro Unit:=(iG root).bind eT
end Go.Proofs.YtknioodagnjchaaGreatDoor
namespace Go.Proofs.YtknioodagnjchaaGreatDoor
open Go.Proofs.Tryz renaming ntmps17->Bt,prog->Bv,func17->Bw
open Go renaming World->Bx,Calls->Bz
open Go.Lib renaming hid->Z
open Go.RowKit Go.Maps
theorem aO {w:Bx} {g gm:Nat} {s:Sf} (hh:w.heap[g]?=some (pq s gm)):w.cell? ⟨g,1,none⟩=some (.int .i64 s.h.mode)/\w.cell? ⟨g,2,none⟩=some (.int .i64 s.h.pages)/\w.cell? ⟨g,3,none⟩=some (.int .i64 s.h.trunk)/\
  w.cell? ⟨g,4,none⟩=some (.int .i64 s.h.spare)/\w.cell? ⟨g,5,none⟩=some (.int .i64 s.h.root)/\w.cell? ⟨g,6,none⟩=some (.int .u64 s.h.change)/\w.cell? ⟨g,7,none⟩=some (.map (some gm))/\g<w.heap.size:=
 ⟨ae hh 1,ae hh 2,ae hh 3,ae hh 4,ae hh 5,ae hh 6,ae hh 7,aj hh⟩
theorem iQ {w:Bx} {g gm:Nat} {s:Sf} (hh:w.heap[g]?=some (pq s gm)):w.cell? ⟨g,1,none⟩=some (.int .i64 s.h.mode)/\w.cell? ⟨g,2,none⟩=some (.int .i64 s.h.pages)/\w.cell? ⟨g,3,none⟩=some (.int .i64 s.h.trunk)/\
  w.cell? ⟨g,4,none⟩=some (.int .i64 s.h.spare)/\w.cell? ⟨g,5,none⟩=some (.int .i64 s.h.root)/\w.cell? ⟨g,6,none⟩=some (.int .u64 s.h.change)/\w.cell? ⟨g,7,none⟩=some (.map (some gm)):=
 ⟨ae hh 1,ae hh 2,ae hh 3,ae hh 4,ae hh 5,ae hh 6,ae hh 7⟩
theorem xi {s:Sf} (h:s.left≠0):bt s 1=0\/bt s 1=21:=by
 unfold bt;rw [if_neg h]
 split
 ·exact .inr rfl
 ·exact .inl rfl
theorem lT {h:Hd} {B:Int->List UInt8} (he:(bH h B).e≠0):(bH h B).B=B:=by
 unfold bH at *
 split at he
 ·rename_i h1
  rw [if_pos h1]
  split at he
  ·rename_i h2;rw [if_pos h2];rfl
  ·exact absurd rfl he
 ·rename_i h1
  rw [if_neg h1]
  split at he
  ·rename_i h2;rw [if_pos h2];rfl
  ·rename_i h2
   rw [if_neg h2];simp only at he ⊢
   split at he
   ·rename_i h3;rw [if_pos h3];rfl
   ·rename_i h3
    rw [if_neg h3]
    split at he
    ·exact absurd rfl he
    ·rename_i h4
     rw [if_neg h4]
     split at he
     ·rename_i h5;rw [if_pos h5];rfl
     ·exact absurd rfl he
theorem iO {h:Hd} {B:Int->List UInt8} (hk:h.Ok) (hl:∀ n,(B n).length=232) (he:(bH h B).e=0):(bH h B).h.Ok/\(∀ n,((bH h B).B n).length=232)/\0<=(bH h B).n/\(bH h B).n<4096:=by
 unfold bH at *
 split at he
 ·rename_i h1
  rw [if_pos h1]
  split at he
  ·cases he
  ·rename_i h2
   rw [if_neg h2];exact ⟨⟨by have:=hk.p1;simp only;omega,by simp only;omega,hk.t0,hk.t1,hk.s0,hk.s1⟩,hl,by have:=hk.p1;simp only;omega,by simp only;omega⟩
 ·rename_i h1
  have hs1:=hk.s0;have hs2:=hk.s1;rw [if_neg h1]
  split at he
  ·cases he
  ·rename_i h2
   rw [if_neg h2];have hb:=lA (hZ (by simpa using h2));simp only at he ⊢
   split at he
   ·cases he
   ·rename_i h3
    rw [if_neg h3]
    split at he
    ·rename_i h4
     rw [if_pos h4];refine ⟨⟨hk.p1,hk.p2,hk.t0,hk.t1,by simp only;omega,by simp only;omega⟩,cF hl (er _),?_⟩;have hm:(dB (B h.trunk)).list.getD ((dB (B h.trunk)).list.length - 1) 0 ∈ (dB (B h.trunk)).list:=by rw [List.getD_eq_getElem?_getD,List.getElem?_eq_getElem (by omega)];exact List.getElem_mem _
     have:=hb.2.2.2 _ hm;exact ⟨by simp only;omega,by simp only;omega⟩
    ·rename_i h4
     rw [if_neg h4]
     split at he
     ·cases he
     ·rename_i h5
      rw [if_neg h5];exact ⟨⟨hk.p1,hk.p2,hb.1,hb.2.1,by simp only;omega,by simp only;omega⟩,hl,hk.t0,hk.t1⟩
def yy (w:Bx) (g:Nat) (h:Hd):Bx:=(((((w.setCell ⟨g,1,none⟩ (.int .i64 h.mode)).setCell ⟨g,2,none⟩ (.int .i64 h.pages)).setCell ⟨g,3,none⟩ (.int .i64 h.trunk)).setCell ⟨g,4,none⟩ (.int .i64 h.spare)).setCell ⟨g,5,none⟩ (.int .i64 h.root)).setCell ⟨g,6,none⟩ (.int .u64 h.change)
theorem iR {w:Bx} {g gm:Nat} {s:Sf} (hh:w.heap[g]?=some (pq s gm)) (h:Hd):(yy w g h).heap[g]?=some (pq { s with h:=h } gm):=ai (ai (ai (ai (ai (ai hh 1 _) 2 _) 3 _) 4 _) 5 _) 6 _
theorem gK {S:Nat->Prop} {a w:Bx} {g:Nat} (hc:Ch S a w) (hg:S g) (h:Hd):Ch S a (yy w g h):=
 (((((hc.setCell (p:=⟨g,1,none⟩) hg _).setCell (p:=⟨g,2,none⟩) hg _).setCell (p:=⟨g,3,none⟩) hg _).setCell (p:=⟨g,4,none⟩) hg _).setCell (p:=⟨g,5,none⟩) hg _).setCell (p:=⟨g,6,none⟩) hg _
theorem eg (s:Sf):bF s={ s with left:=(bF s).left }:=by unfold bF;split <;> rfl
theorem fC {s:Sf} (h:s.Ok):-1<=(bF s).left/\(bF s).left<=1000000000:=⟨(jB h).l0,(jB h).l1⟩
theorem qm (gs gm:Nat) (s:Sf) (w:Bx) (h:ShIs w gs gm s) (h0:s.left≠0) (hbe:bt s 1=0) (hsp:(s.h.spare == 0)=true) (hr:¬ (s.h.spare=0/\s.lim<=s.h.pages)):
  Bz Bv 17 #[.pointer (some ⟨gs,0,none⟩)] w fun e w'=>e=.returned (.tuple #[.int .i64 (bR s),.int .i64 (br s)])/\ShIs w' gs gm (aJ s)/\Ch (fun k=>k=gs\/k=gm) w w':=by
 have HK:=Z h.ok;have HE:=Z (show br s=(bH s.h s.B).e by unfold br;rw [if_neg h0,if_neg hr]);have HBE:=Z hbe;have hr2:(s.h.spare == 0)=true->decide (s.lim<=s.h.pages)=false:=fun e=>by simp at e ⊢;omega
 clear h0 hbe hr;go_enter Bw,Bt;go_wp2_with fail;refine (dV 1 gs gm s w h).mono ?_;rintro e w1 ⟨rfl,hs,hc⟩;rw [HBE.out];have HS:=Z hs;have HC:=Z (hc.mono (S':=fun k=>k=gs\/k=gm) (fun _ _ e=>.inl e));have HBK:=Z (show BookIs w1 gm s.B from fP s ▸ hs.book)
 have HBL:=Z (show w1.heap[gs]?=some (pq { s with left:=(bF s).left } gm) from by
  have:=hs.blk;rw [eg s] at this;exact this)
 clear h hs hc;obtain ⟨a1,a2,a3,a4,a5,a6,a7,a8⟩:=aO HBL.out;have a0:w1.cell? ⟨gs,0,none⟩=some (.int .i64 s.lim):=ae HBL.out 0;simp only at a1 a2 a3 a4 a5 a6 a7;have HG1:=Z (fun q:Nat=>(show (w1.drewN q).drew.heap[gs]?=some (pq { s with left:=(bF s).left } gm) from HBL.out));have HG2:=Z (fun q:Nat=>(show BookIs (w1.drewN q).drew gm s.B from HBK.out.block rfl));have hgm:=HBK.out.lt;have HG3:=Z (fun q:Nat=>(show Ch (fun k=>k=gs\/k=gm) w (w1.drewN q).drew from (HC.out.drewN q).drew))
 first
 | (have hr3:=hr2 hsp
    have hr4:s.h.pages<s.lim:=by simp at hr3;omega
    clear hr2;go_upto_region 4 with fail
    go_quiet (fail))
 | (clear hr2
    go_upto_region 4 with fail
    go_quiet (fail))
 go_upto_region 6 with fail
 obtain ⟨⟨tn,⟨xm,xp,xt,xs,xr,xc⟩,te,tB⟩,hTR⟩:∃ T,bH s.h s.B=T:=⟨_,rfl⟩;have HTR:=Z hTR;clear hTR a0
 go_region_held3 (fun wn=>wn.cell? ⟨gs,1,none⟩=some (.int .i64 s.h.mode)/\wn.cell? ⟨gs,2,none⟩=some (.int .i64 s.h.pages)/\wn.cell? ⟨gs,3,none⟩=some (.int .i64 s.h.trunk)/\
   wn.cell? ⟨gs,4,none⟩=some (.int .i64 s.h.spare)/\wn.cell? ⟨gs,5,none⟩=some (.int .i64 s.h.root)/\wn.cell? ⟨gs,6,none⟩=some (.int .u64 s.h.change)/\wn.cell? ⟨gs,7,none⟩=some (.map (some gm)))
  ((first | go_keep | exact HXS.out))
  (first
  | (go_at_call 51
     refine (fD s.h gm s.B _ (HG2.out _) HK.out.l HK.out.h).mono ?_;rw [HTR.out];simp only [Hd.val,Hd.cells];rintro e w4 ⟨rfl,hbk,hch⟩;have HX4:=Z (hch.keep (HG1.out _) (fun e=>HS.out.ne e.symm));obtain ⟨k1,k2,k3,k4,k5,k6,k7,-⟩:=aO HX4.out;simp only at k1 k2 k3 k4 k5 k6 k7;have hz4:=aj HX4.out;have HB4:=Z hbk;have HC4:=Z ((HG3.out _).trans (hch.mono (S':=fun k=>k=gs\/k=gm) (fun _ _ e=>.inr e)));clear hbk hch)
  | (go_at_call 51
     refine (fD s.h gm s.B _ ((HG2.out _).ch (Ch.alloc (Ch.refl (fun _=>False) _) _) id) HK.out.l HK.out.h).mono ?_;rw [HTR.out];simp only [Hd.val,Hd.cells];rintro e w4 ⟨rfl,hbk,hch⟩;have HX4:=Z (hch.keep (am (HG1.out _) _) (fun e=>HS.out.ne e.symm));obtain ⟨k1,k2,k3,k4,k5,k6,k7,-⟩:=aO HX4.out;simp only at k1 k2 k3 k4 k5 k6 k7;have hz4:=aj HX4.out;have HB4:=Z hbk;have HC4:=Z (((HG3.out _).alloc _).trans (hch.mono (S':=fun k=>k=gs\/k=gm) (fun _ _ e=>.inr e)));have HA4:=Z (show w4.heap[w1.heap.size]?=some (eo Hd.zero) from hch.keep (ag rfl) (by omega));obtain ⟨j0,j1,j2,j3,j4,j5,j6⟩:=aA HA4.out;obtain ⟨l0,l1,l2,l3,l4,l5⟩:=ba HA4.out;simp only [Hd.zero] at j0 j1 j2 j3 j4 j5;have HXS:=Z (iQ ((cL (Ch.refl (fun j=>j=w1.heap.size) w4) rfl ⟨xm,xp,xt,xs,xr,xc⟩).keep HX4.out (by omega)));clear hbk hch))
 all_goals
  first
  | (have HXZ:=Z ((cL (Ch.refl (fun j=>j=w1.heap.size) w4) rfl ⟨xm,xp,xt,xs,xr,xc⟩).keep HX4.out (by omega))
     have HBZ:=Z (HB4.out.ch (cL (Ch.refl (fun j=>j=w1.heap.size) w4) rfl ⟨xm,xp,xt,xs,xr,xc⟩) (by omega));have HHZ:=Z (gA HA4.out ⟨xm,xp,xt,xs,xr,xc⟩);have HCZ:=Z (HC4.out.then (cL (Ch.refl (fun j=>j=w1.heap.size) w4) rfl ⟨xm,xp,xt,xs,xr,xc⟩) (fun i e=>.inr (by have:=HC.out.size;omega)));have hgn:gs≠w1.heap.size:=by omega
     clear HXS j0 j1 j2 j3 j4 j5 j6 l0 l1 l2 l3 l4 l5 k1 k2 k3 k4 k5 k6 k7 HX4 HB4 HC4 HA4 a1 a2 a3 a4 a5 a6 a7;generalize hwf:jU w4 w1.heap.size ⟨xm,xp,xt,xs,xr,xc⟩=wz at *;have hwf2:(((((w4.setCell ⟨w1.heap.size,0,none⟩ (.int .i64 xm)).setCell ⟨w1.heap.size,1,none⟩ (.int .i64 xp)).setCell ⟨w1.heap.size,2,none⟩ (.int .i64 xt)).setCell ⟨w1.heap.size,3,none⟩ (.int .i64 xs)).setCell ⟨w1.heap.size,4,none⟩ (.int .i64 xr)).setCell ⟨w1.heap.size,5,none⟩ (.int .u64 xc)=wz:=hwf;rw [hwf2];generalize w1.heap.size=gr at *;clear hwf hwf2)
  | (have HXZ:=Z (am HX4.out (eo ⟨xm,xp,xt,xs,xr,xc⟩))
     have HBZ:=Z (HB4.out.ch (Ch.alloc (Ch.refl (fun _=>False) w4) (eo ⟨xm,xp,xt,xs,xr,xc⟩)) id);have HHZ:=Z (ag (w0:=w4) (g:=w4.heap.size) (o:=eo ⟨xm,xp,xt,xs,xr,xc⟩) rfl);have HCZ:=Z (HC4.out.alloc (eo ⟨xm,xp,xt,xs,xr,xc⟩));have hgn:gs≠w4.heap.size:=by omega
     clear k1 k2 k3 k4 k5 k6 k7 HX4 HB4 HC4 a1 a2 a3 a4 a5 a6 a7;generalize hwf:w4.alloc (eo ⟨xm,xp,xt,xs,xr,xc⟩)=wz at *;have hwf2:w4.alloc (.cells #[.int .i64 xm,.int .i64 xp,.int .i64 xt,.int .i64 xs,.int .i64 xr,.int .u64 xc] 51)=wz:=hwf;rw [hwf2];generalize w4.heap.size=gr at *;clear hwf hwf2)
  obtain ⟨x1,x2,x3,x4,x5,x6,x7,x8⟩:=aO HXZ.out;obtain ⟨h0,h1,h2,h3,h4,h5,h6⟩:=aA HHZ.out;have f1:=ab HXZ.out 1;have f2:=ab HXZ.out 2;have f3:=ab HXZ.out 3;have f4:=ab HXZ.out 4;have f5:=ab HXZ.out 5;have f6:=ab HXZ.out 6;simp only at x1 x2 x3 x4 x5 x6 x7 h0 h1 h2 h3 h4 h5;by_cases he:te=0
  ·subst he;have hok:=iO HK.out.h HK.out.l (by rw [HTR.out]);rw [HTR.out] at hok;simp only at hok;obtain ⟨hok1,hok2,hn0,hn1⟩:=hok;have HOK1:=Z hok1;have HOK2:=Z hok2;clear hok1 hok2
   have HV:=Z (show br s=0/\bR s=tn/\aJ s={ s with h:=⟨xm,xp,xt,xs,xr,xc⟩,B:=bN tB tn blankL,left:=(bF s).left } by
    have he:br s=0:=by rw [HE.out,HTR.out]
    refine ⟨he,?_,?_⟩
    ·unfold bR;rw [if_pos he,HTR.out]
    ·unfold aJ;rw [if_pos he,HTR.out]
     conv=>lhs;rw [eg s])
   have HX8:=Z (iR HXZ.out ⟨xm,xp,xt,xs,xr,xc⟩);have HB8:=Z (HBZ.out.ch (gK (Ch.refl (fun j=>j=gs) wz) rfl ⟨xm,xp,xt,xs,xr,xc⟩) HS.out.ne);have HC8:=Z (gK (g:=gs) HCZ.out (.inl rfl) ⟨xm,xp,xt,xs,xr,xc⟩);go_upto_region 10 with fail
   generalize hwf:yy wz gs ⟨xm,xp,xt,xs,xr,xc⟩=w8 at *;have hwf2:(((((wz.setCell ⟨gs,1,none⟩ (.int .i64 xm)).setCell ⟨gs,2,none⟩ (.int .i64 xp)).setCell ⟨gs,3,none⟩ (.int .i64 xt)).setCell ⟨gs,4,none⟩ (.int .i64 xs)).setCell ⟨gs,5,none⟩ (.int .i64 xr)).setCell ⟨gs,6,none⟩ (.int .u64 xc)=w8:=hwf;rw [hwf2];clear hwf hwf2 x1 x2 x3 x4 x5 x6 x7 h0 h1 h2 h3 h4 h5 f1 f2 f3 f4 f5 f6;have x7:=(aO HX8.out).2.2.2.2.2.2.1;have h8:=HB8.out.lt
   go_region_held3 (fun wn=>wn.cell? ⟨gs,7,none⟩=some (.map (some gm)))
    ((first | go_keep | exact HK9.out | exact HK10.out))
    ((go_at_call 52
      refine (ie _).mono ?_;rintro e w9 ⟨rfl,hb⟩;have HX9:=Z (af (show w8.drew.heap[gs]?=_ from HX8.out) hb);have HC9:=Z ((HC8.out.drew).trans (Ch.zK hb));have HK9:=Z (aO HX9.out).2.2.2.2.2.2.1;obtain ⟨w10,hrun,hbk,hgr⟩:=(HB8.out.ch (Ch.zK (S:=fun _=>False) (show Below w8.heap.size w8 w9 from ((Below.refl _ w8).drew).trans hb)) id).put hn0 hn1 (ap blankL);have HB10:=Z hbk;have HX10:=Z ((Ch.zL (S:=fun k=>k=gm) hgr (fun k e=>by cases e;rfl)).keep HX9.out (fun e=>HS.out.ne e.symm));have HC10:=Z (HC9.out.trans (Ch.zL (S:=fun k=>k=gs\/k=gm) hgr (fun k e=>.inr (by cases e;rfl))));have HK10:=Z (aO HX10.out).2.2.2.2.2.2.1;clear hb hbk hgr))
   go_wp2_with fail;go_ret2;refine ⟨by rw [HV.out.1,HV.out.2.1];rfl,?_,HC10.out⟩;rw [HV.out.2.2];exact ⟨HX10.out,HB10.out,HS.out.ne,⟨HOK1.out,cF HOK2.out dP,(fC HK.out).1,(fC HK.out).2⟩⟩
  ·have he2:(te == 0)=false:=by simpa using he
   have HV:=Z (show br s=te/\bR s=0/\aJ s=bF s/\tB=s.B by
    have h1:br s=te:=by rw [HE.out,HTR.out]
    have h2:=lT (h:=s.h) (B:=s.B) (by rw [HTR.out];exact he);rw [HTR.out] at h2;refine ⟨h1,?_,?_,h2⟩
    ·unfold bR;rw [h1,if_neg he]
    ·unfold aJ;rw [h1,if_neg he])
   go_wp2_with fail;go_ret2;refine ⟨by rw [HV.out.1,HV.out.2.1];rfl,?_,HCZ.out⟩;rw [HV.out.2.2.1];refine ⟨by rw [eg s];exact HXZ.out,?_,HS.out.ne,HS.out.ok⟩;rw [fP,<- HV.out.2.2.2];exact HBZ.out
theorem py (gs gm:Nat) (s:Sf) (w:Bx) (h:ShIs w gs gm s) (h0:s.left≠0) (hbe:bt s 1=0) (hsp:(s.h.spare == 0)=false) (hr:¬ (s.h.spare=0/\s.lim<=s.h.pages)):
  Bz Bv 17 #[.pointer (some ⟨gs,0,none⟩)] w fun e w'=>e=.returned (.tuple #[.int .i64 (bR s),.int .i64 (br s)])/\ShIs w' gs gm (aJ s)/\Ch (fun k=>k=gs\/k=gm) w w':=by
 have HK:=Z h.ok;have HE:=Z (show br s=(bH s.h s.B).e by unfold br;rw [if_neg h0,if_neg hr]);have HBE:=Z hbe;have hr2:(s.h.spare == 0)=true->decide (s.lim<=s.h.pages)=false:=fun e=>by simp at e ⊢;omega
 clear h0 hbe hr;go_enter Bw,Bt;go_wp2_with fail;refine (dV 1 gs gm s w h).mono ?_;rintro e w1 ⟨rfl,hs,hc⟩;rw [HBE.out];have HS:=Z hs;have HC:=Z (hc.mono (S':=fun k=>k=gs\/k=gm) (fun _ _ e=>.inl e));have HBK:=Z (show BookIs w1 gm s.B from fP s ▸ hs.book)
 have HBL:=Z (show w1.heap[gs]?=some (pq { s with left:=(bF s).left } gm) from by
  have:=hs.blk;rw [eg s] at this;exact this)
 clear h hs hc;obtain ⟨a1,a2,a3,a4,a5,a6,a7,a8⟩:=aO HBL.out;have a0:w1.cell? ⟨gs,0,none⟩=some (.int .i64 s.lim):=ae HBL.out 0;simp only at a1 a2 a3 a4 a5 a6 a7;have HG1:=Z (fun q:Nat=>(show (w1.drewN q).drew.heap[gs]?=some (pq { s with left:=(bF s).left } gm) from HBL.out));have HG2:=Z (fun q:Nat=>(show BookIs (w1.drewN q).drew gm s.B from HBK.out.block rfl));have hgm:=HBK.out.lt;have HG3:=Z (fun q:Nat=>(show Ch (fun k=>k=gs\/k=gm) w (w1.drewN q).drew from (HC.out.drewN q).drew))
 first
 | (have hr3:=hr2 hsp
    have hr4:s.h.pages<s.lim:=by simp at hr3;omega
    clear hr2;go_upto_region 4 with fail
    go_quiet (fail))
 | (clear hr2
    go_upto_region 4 with fail
    go_quiet (fail))
 go_upto_region 6 with fail
 obtain ⟨⟨tn,⟨xm,xp,xt,xs,xr,xc⟩,te,tB⟩,hTR⟩:∃ T,bH s.h s.B=T:=⟨_,rfl⟩;have HTR:=Z hTR;clear hTR a0
 go_region_held3 (fun wn=>wn.cell? ⟨gs,1,none⟩=some (.int .i64 s.h.mode)/\wn.cell? ⟨gs,2,none⟩=some (.int .i64 s.h.pages)/\wn.cell? ⟨gs,3,none⟩=some (.int .i64 s.h.trunk)/\
   wn.cell? ⟨gs,4,none⟩=some (.int .i64 s.h.spare)/\wn.cell? ⟨gs,5,none⟩=some (.int .i64 s.h.root)/\wn.cell? ⟨gs,6,none⟩=some (.int .u64 s.h.change)/\wn.cell? ⟨gs,7,none⟩=some (.map (some gm)))
  ((first | go_keep | exact HXS.out))
  (first
  | (go_at_call 51
     refine (fD s.h gm s.B _ (HG2.out _) HK.out.l HK.out.h).mono ?_;rw [HTR.out];simp only [Hd.val,Hd.cells];rintro e w4 ⟨rfl,hbk,hch⟩;have HX4:=Z (hch.keep (HG1.out _) (fun e=>HS.out.ne e.symm));obtain ⟨k1,k2,k3,k4,k5,k6,k7,-⟩:=aO HX4.out;simp only at k1 k2 k3 k4 k5 k6 k7;have hz4:=aj HX4.out;have HB4:=Z hbk;have HC4:=Z ((HG3.out _).trans (hch.mono (S':=fun k=>k=gs\/k=gm) (fun _ _ e=>.inr e)));clear hbk hch)
  | (go_at_call 51
     refine (fD s.h gm s.B _ ((HG2.out _).ch (Ch.alloc (Ch.refl (fun _=>False) _) _) id) HK.out.l HK.out.h).mono ?_;rw [HTR.out];simp only [Hd.val,Hd.cells];rintro e w4 ⟨rfl,hbk,hch⟩;have HX4:=Z (hch.keep (am (HG1.out _) _) (fun e=>HS.out.ne e.symm));obtain ⟨k1,k2,k3,k4,k5,k6,k7,-⟩:=aO HX4.out;simp only at k1 k2 k3 k4 k5 k6 k7;have hz4:=aj HX4.out;have HB4:=Z hbk;have HC4:=Z (((HG3.out _).alloc _).trans (hch.mono (S':=fun k=>k=gs\/k=gm) (fun _ _ e=>.inr e)));have HA4:=Z (show w4.heap[w1.heap.size]?=some (eo Hd.zero) from hch.keep (ag rfl) (by omega));obtain ⟨j0,j1,j2,j3,j4,j5,j6⟩:=aA HA4.out;obtain ⟨l0,l1,l2,l3,l4,l5⟩:=ba HA4.out;simp only [Hd.zero] at j0 j1 j2 j3 j4 j5;have HXS:=Z (iQ ((cL (Ch.refl (fun j=>j=w1.heap.size) w4) rfl ⟨xm,xp,xt,xs,xr,xc⟩).keep HX4.out (by omega)));clear hbk hch))
 all_goals
  first
  | (have HXZ:=Z ((cL (Ch.refl (fun j=>j=w1.heap.size) w4) rfl ⟨xm,xp,xt,xs,xr,xc⟩).keep HX4.out (by omega))
     have HBZ:=Z (HB4.out.ch (cL (Ch.refl (fun j=>j=w1.heap.size) w4) rfl ⟨xm,xp,xt,xs,xr,xc⟩) (by omega));have HHZ:=Z (gA HA4.out ⟨xm,xp,xt,xs,xr,xc⟩);have HCZ:=Z (HC4.out.then (cL (Ch.refl (fun j=>j=w1.heap.size) w4) rfl ⟨xm,xp,xt,xs,xr,xc⟩) (fun i e=>.inr (by have:=HC.out.size;omega)));have hgn:gs≠w1.heap.size:=by omega
     clear HXS j0 j1 j2 j3 j4 j5 j6 l0 l1 l2 l3 l4 l5 k1 k2 k3 k4 k5 k6 k7 HX4 HB4 HC4 HA4 a1 a2 a3 a4 a5 a6 a7;generalize hwf:jU w4 w1.heap.size ⟨xm,xp,xt,xs,xr,xc⟩=wz at *;have hwf2:(((((w4.setCell ⟨w1.heap.size,0,none⟩ (.int .i64 xm)).setCell ⟨w1.heap.size,1,none⟩ (.int .i64 xp)).setCell ⟨w1.heap.size,2,none⟩ (.int .i64 xt)).setCell ⟨w1.heap.size,3,none⟩ (.int .i64 xs)).setCell ⟨w1.heap.size,4,none⟩ (.int .i64 xr)).setCell ⟨w1.heap.size,5,none⟩ (.int .u64 xc)=wz:=hwf;rw [hwf2];generalize w1.heap.size=gr at *;clear hwf hwf2)
  | (have HXZ:=Z (am HX4.out (eo ⟨xm,xp,xt,xs,xr,xc⟩))
     have HBZ:=Z (HB4.out.ch (Ch.alloc (Ch.refl (fun _=>False) w4) (eo ⟨xm,xp,xt,xs,xr,xc⟩)) id);have HHZ:=Z (ag (w0:=w4) (g:=w4.heap.size) (o:=eo ⟨xm,xp,xt,xs,xr,xc⟩) rfl);have HCZ:=Z (HC4.out.alloc (eo ⟨xm,xp,xt,xs,xr,xc⟩));have hgn:gs≠w4.heap.size:=by omega
     clear k1 k2 k3 k4 k5 k6 k7 HX4 HB4 HC4 a1 a2 a3 a4 a5 a6 a7;generalize hwf:w4.alloc (eo ⟨xm,xp,xt,xs,xr,xc⟩)=wz at *;have hwf2:w4.alloc (.cells #[.int .i64 xm,.int .i64 xp,.int .i64 xt,.int .i64 xs,.int .i64 xr,.int .u64 xc] 51)=wz:=hwf;rw [hwf2];generalize w4.heap.size=gr at *;clear hwf hwf2)
  obtain ⟨x1,x2,x3,x4,x5,x6,x7,x8⟩:=aO HXZ.out;obtain ⟨h0,h1,h2,h3,h4,h5,h6⟩:=aA HHZ.out;have f1:=ab HXZ.out 1;have f2:=ab HXZ.out 2;have f3:=ab HXZ.out 3;have f4:=ab HXZ.out 4;have f5:=ab HXZ.out 5;have f6:=ab HXZ.out 6;simp only at x1 x2 x3 x4 x5 x6 x7 h0 h1 h2 h3 h4 h5;by_cases he:te=0
  ·subst he;have hok:=iO HK.out.h HK.out.l (by rw [HTR.out]);rw [HTR.out] at hok;simp only at hok;obtain ⟨hok1,hok2,hn0,hn1⟩:=hok;have HOK1:=Z hok1;have HOK2:=Z hok2;clear hok1 hok2
   have HV:=Z (show br s=0/\bR s=tn/\aJ s={ s with h:=⟨xm,xp,xt,xs,xr,xc⟩,B:=bN tB tn blankL,left:=(bF s).left } by
    have he:br s=0:=by rw [HE.out,HTR.out]
    refine ⟨he,?_,?_⟩
    ·unfold bR;rw [if_pos he,HTR.out]
    ·unfold aJ;rw [if_pos he,HTR.out]
     conv=>lhs;rw [eg s])
   have HX8:=Z (iR HXZ.out ⟨xm,xp,xt,xs,xr,xc⟩);have HB8:=Z (HBZ.out.ch (gK (Ch.refl (fun j=>j=gs) wz) rfl ⟨xm,xp,xt,xs,xr,xc⟩) HS.out.ne);have HC8:=Z (gK (g:=gs) HCZ.out (.inl rfl) ⟨xm,xp,xt,xs,xr,xc⟩);go_upto_region 10 with fail
   generalize hwf:yy wz gs ⟨xm,xp,xt,xs,xr,xc⟩=w8 at *;have hwf2:(((((wz.setCell ⟨gs,1,none⟩ (.int .i64 xm)).setCell ⟨gs,2,none⟩ (.int .i64 xp)).setCell ⟨gs,3,none⟩ (.int .i64 xt)).setCell ⟨gs,4,none⟩ (.int .i64 xs)).setCell ⟨gs,5,none⟩ (.int .i64 xr)).setCell ⟨gs,6,none⟩ (.int .u64 xc)=w8:=hwf;rw [hwf2];clear hwf hwf2 x1 x2 x3 x4 x5 x6 x7 h0 h1 h2 h3 h4 h5 f1 f2 f3 f4 f5 f6;have x7:=(aO HX8.out).2.2.2.2.2.2.1;have h8:=HB8.out.lt
   go_region_held3 (fun wn=>wn.cell? ⟨gs,7,none⟩=some (.map (some gm)))
    ((first | go_keep | exact HK9.out | exact HK10.out))
    ((go_at_call 52
      refine (ie _).mono ?_;rintro e w9 ⟨rfl,hb⟩;have HX9:=Z (af (show w8.drew.heap[gs]?=_ from HX8.out) hb);have HC9:=Z ((HC8.out.drew).trans (Ch.zK hb));have HK9:=Z (aO HX9.out).2.2.2.2.2.2.1;obtain ⟨w10,hrun,hbk,hgr⟩:=(HB8.out.ch (Ch.zK (S:=fun _=>False) (show Below w8.heap.size w8 w9 from ((Below.refl _ w8).drew).trans hb)) id).put hn0 hn1 (ap blankL);have HB10:=Z hbk;have HX10:=Z ((Ch.zL (S:=fun k=>k=gm) hgr (fun k e=>by cases e;rfl)).keep HX9.out (fun e=>HS.out.ne e.symm));have HC10:=Z (HC9.out.trans (Ch.zL (S:=fun k=>k=gs\/k=gm) hgr (fun k e=>.inr (by cases e;rfl))));have HK10:=Z (aO HX10.out).2.2.2.2.2.2.1;clear hb hbk hgr))
   go_wp2_with fail;go_ret2;refine ⟨by rw [HV.out.1,HV.out.2.1];rfl,?_,HC10.out⟩;rw [HV.out.2.2];exact ⟨HX10.out,HB10.out,HS.out.ne,⟨HOK1.out,cF HOK2.out dP,(fC HK.out).1,(fC HK.out).2⟩⟩
  ·have he2:(te == 0)=false:=by simpa using he
   have HV:=Z (show br s=te/\bR s=0/\aJ s=bF s/\tB=s.B by
    have h1:br s=te:=by rw [HE.out,HTR.out]
    have h2:=lT (h:=s.h) (B:=s.B) (by rw [HTR.out];exact he);rw [HTR.out] at h2;refine ⟨h1,?_,?_,h2⟩
    ·unfold bR;rw [h1,if_neg he]
    ·unfold aJ;rw [h1,if_neg he])
   go_wp2_with fail;go_ret2;refine ⟨by rw [HV.out.1,HV.out.2.1];rfl,?_,HCZ.out⟩;rw [HV.out.2.2.1];refine ⟨by rw [eg s];exact HXZ.out,?_,HS.out.ne,HS.out.ok⟩;rw [fP,<- HV.out.2.2.2];exact HBZ.out
theorem px (gs gm:Nat) (s:Sf) (w:Bx) (h:ShIs w gs gm s) (h0:s.left≠0) (hbe:bt s 1=21) (hsp:(s.h.spare == 0)=true) (hr:¬ (s.h.spare=0/\s.lim<=s.h.pages)):
  Bz Bv 17 #[.pointer (some ⟨gs,0,none⟩)] w fun e w'=>e=.returned (.tuple #[.int .i64 (bR s),.int .i64 (br s)])/\ShIs w' gs gm (aJ s)/\Ch (fun k=>k=gs\/k=gm) w w':=by
 have HK:=Z h.ok;have HE:=Z (show br s=(bH s.h s.B).e by unfold br;rw [if_neg h0,if_neg hr]);have HBE:=Z hbe;have hr2:(s.h.spare == 0)=true->decide (s.lim<=s.h.pages)=false:=fun e=>by simp at e ⊢;omega
 clear h0 hbe hr;go_enter Bw,Bt;go_wp2_with fail;refine (dV 1 gs gm s w h).mono ?_;rintro e w1 ⟨rfl,hs,hc⟩;rw [HBE.out];have HS:=Z hs;have HC:=Z (hc.mono (S':=fun k=>k=gs\/k=gm) (fun _ _ e=>.inl e));have HBK:=Z (show BookIs w1 gm s.B from fP s ▸ hs.book)
 have HBL:=Z (show w1.heap[gs]?=some (pq { s with left:=(bF s).left } gm) from by
  have:=hs.blk;rw [eg s] at this;exact this)
 clear h hs hc;obtain ⟨a1,a2,a3,a4,a5,a6,a7,a8⟩:=aO HBL.out;have a0:w1.cell? ⟨gs,0,none⟩=some (.int .i64 s.lim):=ae HBL.out 0;simp only at a1 a2 a3 a4 a5 a6 a7;have HG1:=Z (fun q:Nat=>(show (w1.drewN q).drew.heap[gs]?=some (pq { s with left:=(bF s).left } gm) from HBL.out));have HG2:=Z (fun q:Nat=>(show BookIs (w1.drewN q).drew gm s.B from HBK.out.block rfl));have hgm:=HBK.out.lt;have HG3:=Z (fun q:Nat=>(show Ch (fun k=>k=gs\/k=gm) w (w1.drewN q).drew from (HC.out.drewN q).drew))
 first
 | (have hr3:=hr2 hsp
    have hr4:s.h.pages<s.lim:=by simp at hr3;omega
    clear hr2;go_upto_region 4 with fail
    go_quiet (fail))
 | (clear hr2
    go_upto_region 4 with fail
    go_quiet (fail))
 go_upto_region 6 with fail
 obtain ⟨⟨tn,⟨xm,xp,xt,xs,xr,xc⟩,te,tB⟩,hTR⟩:∃ T,bH s.h s.B=T:=⟨_,rfl⟩;have HTR:=Z hTR;clear hTR a0
 go_region_held3 (fun wn=>wn.cell? ⟨gs,1,none⟩=some (.int .i64 s.h.mode)/\wn.cell? ⟨gs,2,none⟩=some (.int .i64 s.h.pages)/\wn.cell? ⟨gs,3,none⟩=some (.int .i64 s.h.trunk)/\
   wn.cell? ⟨gs,4,none⟩=some (.int .i64 s.h.spare)/\wn.cell? ⟨gs,5,none⟩=some (.int .i64 s.h.root)/\wn.cell? ⟨gs,6,none⟩=some (.int .u64 s.h.change)/\wn.cell? ⟨gs,7,none⟩=some (.map (some gm)))
  ((first | go_keep | exact HXS.out))
  (first
  | (go_at_call 51
     refine (fD s.h gm s.B _ (HG2.out _) HK.out.l HK.out.h).mono ?_;rw [HTR.out];simp only [Hd.val,Hd.cells];rintro e w4 ⟨rfl,hbk,hch⟩;have HX4:=Z (hch.keep (HG1.out _) (fun e=>HS.out.ne e.symm));obtain ⟨k1,k2,k3,k4,k5,k6,k7,-⟩:=aO HX4.out;simp only at k1 k2 k3 k4 k5 k6 k7;have hz4:=aj HX4.out;have HB4:=Z hbk;have HC4:=Z ((HG3.out _).trans (hch.mono (S':=fun k=>k=gs\/k=gm) (fun _ _ e=>.inr e)));clear hbk hch)
  | (go_at_call 51
     refine (fD s.h gm s.B _ ((HG2.out _).ch (Ch.alloc (Ch.refl (fun _=>False) _) _) id) HK.out.l HK.out.h).mono ?_;rw [HTR.out];simp only [Hd.val,Hd.cells];rintro e w4 ⟨rfl,hbk,hch⟩;have HX4:=Z (hch.keep (am (HG1.out _) _) (fun e=>HS.out.ne e.symm));obtain ⟨k1,k2,k3,k4,k5,k6,k7,-⟩:=aO HX4.out;simp only at k1 k2 k3 k4 k5 k6 k7;have hz4:=aj HX4.out;have HB4:=Z hbk;have HC4:=Z (((HG3.out _).alloc _).trans (hch.mono (S':=fun k=>k=gs\/k=gm) (fun _ _ e=>.inr e)));have HA4:=Z (show w4.heap[w1.heap.size]?=some (eo Hd.zero) from hch.keep (ag rfl) (by omega));obtain ⟨j0,j1,j2,j3,j4,j5,j6⟩:=aA HA4.out;obtain ⟨l0,l1,l2,l3,l4,l5⟩:=ba HA4.out;simp only [Hd.zero] at j0 j1 j2 j3 j4 j5;have HXS:=Z (iQ ((cL (Ch.refl (fun j=>j=w1.heap.size) w4) rfl ⟨xm,xp,xt,xs,xr,xc⟩).keep HX4.out (by omega)));clear hbk hch))
 all_goals
  first
  | (have HXZ:=Z ((cL (Ch.refl (fun j=>j=w1.heap.size) w4) rfl ⟨xm,xp,xt,xs,xr,xc⟩).keep HX4.out (by omega))
     have HBZ:=Z (HB4.out.ch (cL (Ch.refl (fun j=>j=w1.heap.size) w4) rfl ⟨xm,xp,xt,xs,xr,xc⟩) (by omega));have HHZ:=Z (gA HA4.out ⟨xm,xp,xt,xs,xr,xc⟩);have HCZ:=Z (HC4.out.then (cL (Ch.refl (fun j=>j=w1.heap.size) w4) rfl ⟨xm,xp,xt,xs,xr,xc⟩) (fun i e=>.inr (by have:=HC.out.size;omega)));have hgn:gs≠w1.heap.size:=by omega
     clear HXS j0 j1 j2 j3 j4 j5 j6 l0 l1 l2 l3 l4 l5 k1 k2 k3 k4 k5 k6 k7 HX4 HB4 HC4 HA4 a1 a2 a3 a4 a5 a6 a7;generalize hwf:jU w4 w1.heap.size ⟨xm,xp,xt,xs,xr,xc⟩=wz at *;have hwf2:(((((w4.setCell ⟨w1.heap.size,0,none⟩ (.int .i64 xm)).setCell ⟨w1.heap.size,1,none⟩ (.int .i64 xp)).setCell ⟨w1.heap.size,2,none⟩ (.int .i64 xt)).setCell ⟨w1.heap.size,3,none⟩ (.int .i64 xs)).setCell ⟨w1.heap.size,4,none⟩ (.int .i64 xr)).setCell ⟨w1.heap.size,5,none⟩ (.int .u64 xc)=wz:=hwf;rw [hwf2];generalize w1.heap.size=gr at *;clear hwf hwf2)
  | (have HXZ:=Z (am HX4.out (eo ⟨xm,xp,xt,xs,xr,xc⟩))
     have HBZ:=Z (HB4.out.ch (Ch.alloc (Ch.refl (fun _=>False) w4) (eo ⟨xm,xp,xt,xs,xr,xc⟩)) id);have HHZ:=Z (ag (w0:=w4) (g:=w4.heap.size) (o:=eo ⟨xm,xp,xt,xs,xr,xc⟩) rfl);have HCZ:=Z (HC4.out.alloc (eo ⟨xm,xp,xt,xs,xr,xc⟩));have hgn:gs≠w4.heap.size:=by omega
     clear k1 k2 k3 k4 k5 k6 k7 HX4 HB4 HC4 a1 a2 a3 a4 a5 a6 a7;generalize hwf:w4.alloc (eo ⟨xm,xp,xt,xs,xr,xc⟩)=wz at *;have hwf2:w4.alloc (.cells #[.int .i64 xm,.int .i64 xp,.int .i64 xt,.int .i64 xs,.int .i64 xr,.int .u64 xc] 51)=wz:=hwf;rw [hwf2];generalize w4.heap.size=gr at *;clear hwf hwf2)
  obtain ⟨x1,x2,x3,x4,x5,x6,x7,x8⟩:=aO HXZ.out;obtain ⟨h0,h1,h2,h3,h4,h5,h6⟩:=aA HHZ.out;have f1:=ab HXZ.out 1;have f2:=ab HXZ.out 2;have f3:=ab HXZ.out 3;have f4:=ab HXZ.out 4;have f5:=ab HXZ.out 5;have f6:=ab HXZ.out 6;simp only at x1 x2 x3 x4 x5 x6 x7 h0 h1 h2 h3 h4 h5;by_cases he:te=0
  ·subst he;have hok:=iO HK.out.h HK.out.l (by rw [HTR.out]);rw [HTR.out] at hok;simp only at hok;obtain ⟨hok1,hok2,hn0,hn1⟩:=hok;have HOK1:=Z hok1;have HOK2:=Z hok2;clear hok1 hok2
   have HV:=Z (show br s=0/\bR s=tn/\aJ s={ s with h:=⟨xm,xp,xt,xs,xr,xc⟩,B:=bN tB tn blankL,left:=(bF s).left } by
    have he:br s=0:=by rw [HE.out,HTR.out]
    refine ⟨he,?_,?_⟩
    ·unfold bR;rw [if_pos he,HTR.out]
    ·unfold aJ;rw [if_pos he,HTR.out]
     conv=>lhs;rw [eg s])
   have HX8:=Z (iR HXZ.out ⟨xm,xp,xt,xs,xr,xc⟩);have HB8:=Z (HBZ.out.ch (gK (Ch.refl (fun j=>j=gs) wz) rfl ⟨xm,xp,xt,xs,xr,xc⟩) HS.out.ne);have HC8:=Z (gK (g:=gs) HCZ.out (.inl rfl) ⟨xm,xp,xt,xs,xr,xc⟩);go_upto_region 10 with fail
   generalize hwf:yy wz gs ⟨xm,xp,xt,xs,xr,xc⟩=w8 at *;have hwf2:(((((wz.setCell ⟨gs,1,none⟩ (.int .i64 xm)).setCell ⟨gs,2,none⟩ (.int .i64 xp)).setCell ⟨gs,3,none⟩ (.int .i64 xt)).setCell ⟨gs,4,none⟩ (.int .i64 xs)).setCell ⟨gs,5,none⟩ (.int .i64 xr)).setCell ⟨gs,6,none⟩ (.int .u64 xc)=w8:=hwf;rw [hwf2];clear hwf hwf2 x1 x2 x3 x4 x5 x6 x7 h0 h1 h2 h3 h4 h5 f1 f2 f3 f4 f5 f6;have x7:=(aO HX8.out).2.2.2.2.2.2.1;have h8:=HB8.out.lt
   go_region_held3 (fun wn=>wn.cell? ⟨gs,7,none⟩=some (.map (some gm)))
    ((first | go_keep | exact HK9.out | exact HK10.out))
    ((go_at_call 52
      refine (ie _).mono ?_;rintro e w9 ⟨rfl,hb⟩;have HX9:=Z (af (show w8.drew.heap[gs]?=_ from HX8.out) hb);have HC9:=Z ((HC8.out.drew).trans (Ch.zK hb));have HK9:=Z (aO HX9.out).2.2.2.2.2.2.1;obtain ⟨w10,hrun,hbk,hgr⟩:=(HB8.out.ch (Ch.zK (S:=fun _=>False) (show Below w8.heap.size w8 w9 from ((Below.refl _ w8).drew).trans hb)) id).put hn0 hn1 (ap blankL);have HB10:=Z hbk;have HX10:=Z ((Ch.zL (S:=fun k=>k=gm) hgr (fun k e=>by cases e;rfl)).keep HX9.out (fun e=>HS.out.ne e.symm));have HC10:=Z (HC9.out.trans (Ch.zL (S:=fun k=>k=gs\/k=gm) hgr (fun k e=>.inr (by cases e;rfl))));have HK10:=Z (aO HX10.out).2.2.2.2.2.2.1;clear hb hbk hgr))
   go_wp2_with fail;go_ret2;refine ⟨by rw [HV.out.1,HV.out.2.1];rfl,?_,HC10.out⟩;rw [HV.out.2.2];exact ⟨HX10.out,HB10.out,HS.out.ne,⟨HOK1.out,cF HOK2.out dP,(fC HK.out).1,(fC HK.out).2⟩⟩
  ·have he2:(te == 0)=false:=by simpa using he
   have HV:=Z (show br s=te/\bR s=0/\aJ s=bF s/\tB=s.B by
    have h1:br s=te:=by rw [HE.out,HTR.out]
    have h2:=lT (h:=s.h) (B:=s.B) (by rw [HTR.out];exact he);rw [HTR.out] at h2;refine ⟨h1,?_,?_,h2⟩
    ·unfold bR;rw [h1,if_neg he]
    ·unfold aJ;rw [h1,if_neg he])
   go_wp2_with fail;go_ret2;refine ⟨by rw [HV.out.1,HV.out.2.1];rfl,?_,HCZ.out⟩;rw [HV.out.2.2.1];refine ⟨by rw [eg s];exact HXZ.out,?_,HS.out.ne,HS.out.ok⟩;rw [fP,<- HV.out.2.2.2];exact HBZ.out
theorem nP (gs gm:Nat) (s:Sf) (w:Bx) (h:ShIs w gs gm s) (h0:s.left≠0) (hbe:bt s 1=21) (hsp:(s.h.spare == 0)=false) (hr:¬ (s.h.spare=0/\s.lim<=s.h.pages)):
  Bz Bv 17 #[.pointer (some ⟨gs,0,none⟩)] w fun e w'=>e=.returned (.tuple #[.int .i64 (bR s),.int .i64 (br s)])/\ShIs w' gs gm (aJ s)/\Ch (fun k=>k=gs\/k=gm) w w':=by
 have HK:=Z h.ok;have HE:=Z (show br s=(bH s.h s.B).e by unfold br;rw [if_neg h0,if_neg hr]);have HBE:=Z hbe;have hr2:(s.h.spare == 0)=true->decide (s.lim<=s.h.pages)=false:=fun e=>by simp at e ⊢;omega
 clear h0 hbe hr;go_enter Bw,Bt;go_wp2_with fail;refine (dV 1 gs gm s w h).mono ?_;rintro e w1 ⟨rfl,hs,hc⟩;rw [HBE.out];have HS:=Z hs;have HC:=Z (hc.mono (S':=fun k=>k=gs\/k=gm) (fun _ _ e=>.inl e));have HBK:=Z (show BookIs w1 gm s.B from fP s ▸ hs.book)
 have HBL:=Z (show w1.heap[gs]?=some (pq { s with left:=(bF s).left } gm) from by
  have:=hs.blk;rw [eg s] at this;exact this)
 clear h hs hc;obtain ⟨a1,a2,a3,a4,a5,a6,a7,a8⟩:=aO HBL.out;have a0:w1.cell? ⟨gs,0,none⟩=some (.int .i64 s.lim):=ae HBL.out 0;simp only at a1 a2 a3 a4 a5 a6 a7;have HG1:=Z (fun q:Nat=>(show (w1.drewN q).drew.heap[gs]?=some (pq { s with left:=(bF s).left } gm) from HBL.out));have HG2:=Z (fun q:Nat=>(show BookIs (w1.drewN q).drew gm s.B from HBK.out.block rfl));have hgm:=HBK.out.lt;have HG3:=Z (fun q:Nat=>(show Ch (fun k=>k=gs\/k=gm) w (w1.drewN q).drew from (HC.out.drewN q).drew))
 first
 | (have hr3:=hr2 hsp
    have hr4:s.h.pages<s.lim:=by simp at hr3;omega
    clear hr2;go_upto_region 4 with fail
    go_quiet (fail))
 | (clear hr2
    go_upto_region 4 with fail
    go_quiet (fail))
 go_upto_region 6 with fail
 obtain ⟨⟨tn,⟨xm,xp,xt,xs,xr,xc⟩,te,tB⟩,hTR⟩:∃ T,bH s.h s.B=T:=⟨_,rfl⟩;have HTR:=Z hTR;clear hTR a0
 go_region_held3 (fun wn=>wn.cell? ⟨gs,1,none⟩=some (.int .i64 s.h.mode)/\wn.cell? ⟨gs,2,none⟩=some (.int .i64 s.h.pages)/\wn.cell? ⟨gs,3,none⟩=some (.int .i64 s.h.trunk)/\
   wn.cell? ⟨gs,4,none⟩=some (.int .i64 s.h.spare)/\wn.cell? ⟨gs,5,none⟩=some (.int .i64 s.h.root)/\wn.cell? ⟨gs,6,none⟩=some (.int .u64 s.h.change)/\wn.cell? ⟨gs,7,none⟩=some (.map (some gm)))
  ((first | go_keep | exact HXS.out))
  (first
  | (go_at_call 51
     refine (fD s.h gm s.B _ (HG2.out _) HK.out.l HK.out.h).mono ?_;rw [HTR.out];simp only [Hd.val,Hd.cells];rintro e w4 ⟨rfl,hbk,hch⟩;have HX4:=Z (hch.keep (HG1.out _) (fun e=>HS.out.ne e.symm));obtain ⟨k1,k2,k3,k4,k5,k6,k7,-⟩:=aO HX4.out;simp only at k1 k2 k3 k4 k5 k6 k7;have hz4:=aj HX4.out;have HB4:=Z hbk;have HC4:=Z ((HG3.out _).trans (hch.mono (S':=fun k=>k=gs\/k=gm) (fun _ _ e=>.inr e)));clear hbk hch)
  | (go_at_call 51
     refine (fD s.h gm s.B _ ((HG2.out _).ch (Ch.alloc (Ch.refl (fun _=>False) _) _) id) HK.out.l HK.out.h).mono ?_;rw [HTR.out];simp only [Hd.val,Hd.cells];rintro e w4 ⟨rfl,hbk,hch⟩;have HX4:=Z (hch.keep (am (HG1.out _) _) (fun e=>HS.out.ne e.symm));obtain ⟨k1,k2,k3,k4,k5,k6,k7,-⟩:=aO HX4.out;simp only at k1 k2 k3 k4 k5 k6 k7;have hz4:=aj HX4.out;have HB4:=Z hbk;have HC4:=Z (((HG3.out _).alloc _).trans (hch.mono (S':=fun k=>k=gs\/k=gm) (fun _ _ e=>.inr e)));have HA4:=Z (show w4.heap[w1.heap.size]?=some (eo Hd.zero) from hch.keep (ag rfl) (by omega));obtain ⟨j0,j1,j2,j3,j4,j5,j6⟩:=aA HA4.out;obtain ⟨l0,l1,l2,l3,l4,l5⟩:=ba HA4.out;simp only [Hd.zero] at j0 j1 j2 j3 j4 j5;have HXS:=Z (iQ ((cL (Ch.refl (fun j=>j=w1.heap.size) w4) rfl ⟨xm,xp,xt,xs,xr,xc⟩).keep HX4.out (by omega)));clear hbk hch))
 all_goals
  first
  | (have HXZ:=Z ((cL (Ch.refl (fun j=>j=w1.heap.size) w4) rfl ⟨xm,xp,xt,xs,xr,xc⟩).keep HX4.out (by omega))
     have HBZ:=Z (HB4.out.ch (cL (Ch.refl (fun j=>j=w1.heap.size) w4) rfl ⟨xm,xp,xt,xs,xr,xc⟩) (by omega));have HHZ:=Z (gA HA4.out ⟨xm,xp,xt,xs,xr,xc⟩);have HCZ:=Z (HC4.out.then (cL (Ch.refl (fun j=>j=w1.heap.size) w4) rfl ⟨xm,xp,xt,xs,xr,xc⟩) (fun i e=>.inr (by have:=HC.out.size;omega)));have hgn:gs≠w1.heap.size:=by omega
     clear HXS j0 j1 j2 j3 j4 j5 j6 l0 l1 l2 l3 l4 l5 k1 k2 k3 k4 k5 k6 k7 HX4 HB4 HC4 HA4 a1 a2 a3 a4 a5 a6 a7;generalize hwf:jU w4 w1.heap.size ⟨xm,xp,xt,xs,xr,xc⟩=wz at *;have hwf2:(((((w4.setCell ⟨w1.heap.size,0,none⟩ (.int .i64 xm)).setCell ⟨w1.heap.size,1,none⟩ (.int .i64 xp)).setCell ⟨w1.heap.size,2,none⟩ (.int .i64 xt)).setCell ⟨w1.heap.size,3,none⟩ (.int .i64 xs)).setCell ⟨w1.heap.size,4,none⟩ (.int .i64 xr)).setCell ⟨w1.heap.size,5,none⟩ (.int .u64 xc)=wz:=hwf;rw [hwf2];generalize w1.heap.size=gr at *;clear hwf hwf2)
  | (have HXZ:=Z (am HX4.out (eo ⟨xm,xp,xt,xs,xr,xc⟩))
     have HBZ:=Z (HB4.out.ch (Ch.alloc (Ch.refl (fun _=>False) w4) (eo ⟨xm,xp,xt,xs,xr,xc⟩)) id);have HHZ:=Z (ag (w0:=w4) (g:=w4.heap.size) (o:=eo ⟨xm,xp,xt,xs,xr,xc⟩) rfl);have HCZ:=Z (HC4.out.alloc (eo ⟨xm,xp,xt,xs,xr,xc⟩));have hgn:gs≠w4.heap.size:=by omega
     clear k1 k2 k3 k4 k5 k6 k7 HX4 HB4 HC4 a1 a2 a3 a4 a5 a6 a7;generalize hwf:w4.alloc (eo ⟨xm,xp,xt,xs,xr,xc⟩)=wz at *;have hwf2:w4.alloc (.cells #[.int .i64 xm,.int .i64 xp,.int .i64 xt,.int .i64 xs,.int .i64 xr,.int .u64 xc] 51)=wz:=hwf;rw [hwf2];generalize w4.heap.size=gr at *;clear hwf hwf2)
  obtain ⟨x1,x2,x3,x4,x5,x6,x7,x8⟩:=aO HXZ.out;obtain ⟨h0,h1,h2,h3,h4,h5,h6⟩:=aA HHZ.out;have f1:=ab HXZ.out 1;have f2:=ab HXZ.out 2;have f3:=ab HXZ.out 3;have f4:=ab HXZ.out 4;have f5:=ab HXZ.out 5;have f6:=ab HXZ.out 6;simp only at x1 x2 x3 x4 x5 x6 x7 h0 h1 h2 h3 h4 h5;by_cases he:te=0
  ·subst he;have hok:=iO HK.out.h HK.out.l (by rw [HTR.out]);rw [HTR.out] at hok;simp only at hok;obtain ⟨hok1,hok2,hn0,hn1⟩:=hok;have HOK1:=Z hok1;have HOK2:=Z hok2;clear hok1 hok2
   have HV:=Z (show br s=0/\bR s=tn/\aJ s={ s with h:=⟨xm,xp,xt,xs,xr,xc⟩,B:=bN tB tn blankL,left:=(bF s).left } by
    have he:br s=0:=by rw [HE.out,HTR.out]
    refine ⟨he,?_,?_⟩
    ·unfold bR;rw [if_pos he,HTR.out]
    ·unfold aJ;rw [if_pos he,HTR.out]
     conv=>lhs;rw [eg s])
   have HX8:=Z (iR HXZ.out ⟨xm,xp,xt,xs,xr,xc⟩);have HB8:=Z (HBZ.out.ch (gK (Ch.refl (fun j=>j=gs) wz) rfl ⟨xm,xp,xt,xs,xr,xc⟩) HS.out.ne);have HC8:=Z (gK (g:=gs) HCZ.out (.inl rfl) ⟨xm,xp,xt,xs,xr,xc⟩);go_upto_region 10 with fail
   generalize hwf:yy wz gs ⟨xm,xp,xt,xs,xr,xc⟩=w8 at *;have hwf2:(((((wz.setCell ⟨gs,1,none⟩ (.int .i64 xm)).setCell ⟨gs,2,none⟩ (.int .i64 xp)).setCell ⟨gs,3,none⟩ (.int .i64 xt)).setCell ⟨gs,4,none⟩ (.int .i64 xs)).setCell ⟨gs,5,none⟩ (.int .i64 xr)).setCell ⟨gs,6,none⟩ (.int .u64 xc)=w8:=hwf;rw [hwf2];clear hwf hwf2 x1 x2 x3 x4 x5 x6 x7 h0 h1 h2 h3 h4 h5 f1 f2 f3 f4 f5 f6;have x7:=(aO HX8.out).2.2.2.2.2.2.1;have h8:=HB8.out.lt
   go_region_held3 (fun wn=>wn.cell? ⟨gs,7,none⟩=some (.map (some gm)))
    ((first | go_keep | exact HK9.out | exact HK10.out))
    ((go_at_call 52
      refine (ie _).mono ?_;rintro e w9 ⟨rfl,hb⟩;have HX9:=Z (af (show w8.drew.heap[gs]?=_ from HX8.out) hb);have HC9:=Z ((HC8.out.drew).trans (Ch.zK hb));have HK9:=Z (aO HX9.out).2.2.2.2.2.2.1;obtain ⟨w10,hrun,hbk,hgr⟩:=(HB8.out.ch (Ch.zK (S:=fun _=>False) (show Below w8.heap.size w8 w9 from ((Below.refl _ w8).drew).trans hb)) id).put hn0 hn1 (ap blankL);have HB10:=Z hbk;have HX10:=Z ((Ch.zL (S:=fun k=>k=gm) hgr (fun k e=>by cases e;rfl)).keep HX9.out (fun e=>HS.out.ne e.symm));have HC10:=Z (HC9.out.trans (Ch.zL (S:=fun k=>k=gs\/k=gm) hgr (fun k e=>.inr (by cases e;rfl))));have HK10:=Z (aO HX10.out).2.2.2.2.2.2.1;clear hb hbk hgr))
   go_wp2_with fail;go_ret2;refine ⟨by rw [HV.out.1,HV.out.2.1];rfl,?_,HC10.out⟩;rw [HV.out.2.2];exact ⟨HX10.out,HB10.out,HS.out.ne,⟨HOK1.out,cF HOK2.out dP,(fC HK.out).1,(fC HK.out).2⟩⟩
  ·have he2:(te == 0)=false:=by simpa using he
   have HV:=Z (show br s=te/\bR s=0/\aJ s=bF s/\tB=s.B by
    have h1:br s=te:=by rw [HE.out,HTR.out]
    have h2:=lT (h:=s.h) (B:=s.B) (by rw [HTR.out];exact he);rw [HTR.out] at h2;refine ⟨h1,?_,?_,h2⟩
    ·unfold bR;rw [h1,if_neg he]
    ·unfold aJ;rw [h1,if_neg he])
   go_wp2_with fail;go_ret2;refine ⟨by rw [HV.out.1,HV.out.2.1];rfl,?_,HCZ.out⟩;rw [HV.out.2.2.1];refine ⟨by rw [eg s];exact HXZ.out,?_,HS.out.ne,HS.out.ok⟩;rw [fP,<- HV.out.2.2.2];exact HBZ.out
theorem qj (gs gm:Nat) (s:Sf) (w:Bx) (h:ShIs w gs gm s) (h0:s.left≠0) (hbe:bt s 1=0) (hr:s.h.spare=0/\s.lim<=s.h.pages):
  Bz Bv 17 #[.pointer (some ⟨gs,0,none⟩)] w fun e w'=>e=.returned (.tuple #[.int .i64 (bR s),.int .i64 (br s)])/\ShIs w' gs gm (aJ s)/\Ch (fun k=>k=gs\/k=gm) w w':=by
 have HV:=Z (show bR s=0/\br s=22/\aJ s=bF s by
  have:br s=22:=by unfold br;rw [if_neg h0,if_pos hr]
  unfold bR aJ;rw [this];exact ⟨rfl,rfl,rfl⟩)
 have HBE:=Z hbe;have hr1:(s.h.spare == 0)=true:=by simpa using hr.1
 have hr2:decide (s.lim<=s.h.pages)=true:=decide_eq_true hr.2;clear h0 hbe hr;go_enter Bw,Bt;go_wp2_with fail;refine (dV 1 gs gm s w h).mono ?_;rintro e w1 ⟨rfl,hs,hc⟩;rw [HBE.out];have HS:=Z hs;have HC:=Z (hc.mono (S':=fun k=>k=gs\/k=gm) (fun _ _ e=>.inl e))
 have HBL:=Z (show w1.heap[gs]?=some (pq { s with left:=(bF s).left } gm) from by
  have:=hs.blk;rw [eg s] at this;exact this)
 clear h hs hc;obtain ⟨a1,a2,a3,a4,a5,a6,a7,a8⟩:=aO HBL.out;have a0:w1.cell? ⟨gs,0,none⟩=some (.int .i64 s.lim):=ae HBL.out 0;simp only at a1 a2 a3 a4 a5 a6 a7;go_upto_region 4 with fail
 go_quiet (fail);go_wp2_with fail;go_ret2;exact ⟨by rw [HV.out.1,HV.out.2.1];rfl,by rw [HV.out.2.2];exact HS.out.ch (Ch.drewN (Ch.refl (fun _=>False) _) _) id id,HC.out.drewN _⟩
theorem pu (gs gm:Nat) (s:Sf) (w:Bx) (h:ShIs w gs gm s) (h0:s.left≠0) (hbe:bt s 1=21) (hr:s.h.spare=0/\s.lim<=s.h.pages):
  Bz Bv 17 #[.pointer (some ⟨gs,0,none⟩)] w fun e w'=>e=.returned (.tuple #[.int .i64 (bR s),.int .i64 (br s)])/\ShIs w' gs gm (aJ s)/\Ch (fun k=>k=gs\/k=gm) w w':=by
 have HV:=Z (show bR s=0/\br s=22/\aJ s=bF s by
  have:br s=22:=by unfold br;rw [if_neg h0,if_pos hr]
  unfold bR aJ;rw [this];exact ⟨rfl,rfl,rfl⟩)
 have HBE:=Z hbe;have hr1:(s.h.spare == 0)=true:=by simpa using hr.1
 have hr2:decide (s.lim<=s.h.pages)=true:=decide_eq_true hr.2;clear h0 hbe hr;go_enter Bw,Bt;go_wp2_with fail;refine (dV 1 gs gm s w h).mono ?_;rintro e w1 ⟨rfl,hs,hc⟩;rw [HBE.out];have HS:=Z hs;have HC:=Z (hc.mono (S':=fun k=>k=gs\/k=gm) (fun _ _ e=>.inl e))
 have HBL:=Z (show w1.heap[gs]?=some (pq { s with left:=(bF s).left } gm) from by
  have:=hs.blk;rw [eg s] at this;exact this)
 clear h hs hc;obtain ⟨a1,a2,a3,a4,a5,a6,a7,a8⟩:=aO HBL.out;have a0:w1.cell? ⟨gs,0,none⟩=some (.int .i64 s.lim):=ae HBL.out 0;simp only at a1 a2 a3 a4 a5 a6 a7;go_upto_region 4 with fail
 go_quiet (fail);go_wp2_with fail;go_ret2;exact ⟨by rw [HV.out.1,HV.out.2.1];rfl,by rw [HV.out.2.2];exact HS.out.ch (Ch.drewN (Ch.refl (fun _=>False) _) _) id id,HC.out.drewN _⟩
theorem ud (gs gm:Nat) (s:Sf) (w:Bx) (h:ShIs w gs gm s) (h0:s.left=0):
  Bz Bv 17 #[.pointer (some ⟨gs,0,none⟩)] w fun e w'=>e=.returned (.tuple #[.int .i64 (bR s),.int .i64 (br s)])/\ShIs w' gs gm (aJ s)/\Ch (fun k=>k=gs\/k=gm) w w':=by
 have HV:=Z (show bt s 1=11/\bR s=0/\br s=11/\aJ s=bF s by
  have:br s=11:=by unfold br;rw [if_pos h0]
  unfold bR aJ bt;rw [this,if_pos h0];exact ⟨rfl,rfl,rfl,rfl⟩)
 clear h0;go_enter Bw,Bt;go_wp2_with fail;refine (dV 1 gs gm s w h).mono ?_;rintro e w1 ⟨rfl,hs,hc⟩;rw [HV.out.1];have HS:=Z hs;have HC:=Z (hc.mono (S':=fun k=>k=gs\/k=gm) (fun _ _ e=>.inl e));clear h hs hc;go_wp2_with fail;go_ret2;exact ⟨by rw [HV.out.2.1,HV.out.2.2.1];rfl,by rw [HV.out.2.2.2];exact HS.out,HC.out⟩
theorem eO (gs gm:Nat) (s:Sf) (w:Bx) (h:ShIs w gs gm s):
  Bz Bv 17 #[.pointer (some ⟨gs,0,none⟩)] w fun e w'=>e=.returned (.tuple #[.int .i64 (bR s),.int .i64 (br s)])/\ShIs w' gs gm (aJ s)/\Ch (fun k=>k=gs\/k=gm) w w':=by
 by_cases h0:s.left=0
 ·exact ud gs gm s w h h0
 ·by_cases hr:s.h.spare=0/\s.lim<=s.h.pages
  ·rcases xi h0 with hb | hb
   ·exact qj gs gm s w h h0 hb hr
   ·exact pu gs gm s w h h0 hb hr
  ·rcases xi h0 with hb | hb <;> cases hs:(s.h.spare == 0)
   ·exact py gs gm s w h h0 hb hs hr
   ·exact qm gs gm s w h h0 hb hs hr
   ·exact nP gs gm s w h h0 hb hs hr
   ·exact px gs gm s w h h0 hb hs hr
theorem xX {h:Hd} {B:Int->List UInt8} {n:Int} (he:(di h B n).e≠0):(di h B n).B=B:=by
 unfold di at *
 split at he
 ·rename_i h1;rw [if_pos h1];rfl
 ·rename_i h1
  rw [if_neg h1]
  split at he
  ·rename_i h2;rw [if_pos h2];rfl
  ·rename_i h2
   rw [if_neg h2]
   split at he
   ·exact absurd rfl he
   ·rename_i h3
    rw [if_neg h3]
    split at he
    ·rename_i h4;rw [if_pos h4];rfl
    ·split at he
     ·exact absurd rfl he
     ·exact absurd rfl he
theorem wH {h:Hd} {B:Int->List UInt8} {n:Int} (hk:h.Ok) (hl:∀ n,(B n).length=232) (he:(di h B n).e=0):(di h B n).h.Ok/\(∀ m,((di h B n).B m).length=232):=by
 have hp2:=hk.p2;have hs0:=hk.s0;unfold di at *
 split at he
 ·cases he
 ·rename_i h1
  rw [if_neg h1]
  split at he
  ·cases he
  ·rename_i h2
   rw [if_neg h2]
   split at he
   ·rename_i h3
    rw [if_pos h3];exact ⟨⟨hk.p1,hk.p2,by simp only;omega,by simp only;omega,by simp only;omega,by simp only;omega⟩,cF hl (er _)⟩
   ·rename_i h3
    rw [if_neg h3]
    split at he
    ·cases he
    ·rename_i h4
     rw [if_neg h4]
     split at he
     ·rename_i h5
      rw [if_pos h5];exact ⟨⟨hk.p1,hk.p2,hk.t0,hk.t1,by simp only;omega,by simp only;omega⟩,cF hl (er _)⟩
     ·rename_i h5
      rw [if_neg h5];exact ⟨⟨hk.p1,hk.p2,by simp only;omega,by simp only;omega,by simp only;omega,by simp only;omega⟩,cF hl (er _)⟩
theorem gW (gs gm:Nat) (s:Sf) (n:Int) (w:Bx) (h:ShIs w gs gm s):
  Bz Bv 45 #[.pointer (some ⟨gs,0,none⟩),.int .i64 n] w fun e w'=>e=.returned (.int .i64 (cA s n))/\ShIs w' gs gm (cX s n)/\Ch (fun k=>k=gs\/k=gm) w w':=by
 have HK:=Z h.ok;go_enter Tryz.func45,Tryz.ntmps45;go_wp2_with fail;refine (dV n gs gm s w h).mono ?_;rintro e w1 ⟨rfl,hs,hc⟩;have HS:=Z hs;have HC:=Z (hc.mono (S':=fun k=>k=gs\/k=gm) (fun _ _ e=>.inl e));have HBK:=Z (show BookIs w1 gm s.B from fP s ▸ hs.book)
 have HBL:=Z (show w1.heap[gs]?=some (pq { s with left:=(bF s).left } gm) from by
  have:=hs.blk;rw [eg s] at this;exact this)
 clear h hs hc;obtain ⟨be,hbe⟩:∃ be,bt s n=be:=⟨_,rfl⟩;rw [hbe];have HBE:=Z hbe;clear hbe;by_cases h0:be=0
 ·subst h0;have HE:=Z (show cA s n=(di s.h s.B n).e by unfold cA;rw [HBE.out];rfl);obtain ⟨a1,a2,a3,a4,a5,a6,a7,a8⟩:=aO HBL.out;simp only at a1 a2 a3 a4 a5 a6 a7;have hgm:=HBK.out.lt;obtain ⟨⟨⟨xm,xp,xt,xs,xr,xc⟩,te,tB⟩,hTR⟩:∃ T,di s.h s.B n=T:=⟨_,rfl⟩;have HTR:=Z hTR;clear hTR;go_upto_region 4 with fail
  go_region_held3 (fun wn=>wn.cell? ⟨gs,1,none⟩=some (.int .i64 s.h.mode)/\wn.cell? ⟨gs,2,none⟩=some (.int .i64 s.h.pages)/\wn.cell? ⟨gs,3,none⟩=some (.int .i64 s.h.trunk)/\
    wn.cell? ⟨gs,4,none⟩=some (.int .i64 s.h.spare)/\wn.cell? ⟨gs,5,none⟩=some (.int .i64 s.h.root)/\wn.cell? ⟨gs,6,none⟩=some (.int .u64 s.h.change)/\wn.cell? ⟨gs,7,none⟩=some (.map (some gm)))
   ((first | go_keep | exact HXS.out))
   (first
   | (go_at_call 93
      refine (re s.h n gm s.B _ (HBK.out.block (w':=w1.drew) rfl) HK.out.l HK.out.h).mono ?_;rw [HTR.out];simp only [Hd.val,Hd.cells];rintro e w4 ⟨rfl,hbk,hch⟩;have HX4:=Z (hch.keep (show w1.drew.heap[gs]?=_ from HBL.out) (fun e=>HS.out.ne e.symm));obtain ⟨k1,k2,k3,k4,k5,k6,k7,-⟩:=aO HX4.out;simp only at k1 k2 k3 k4 k5 k6 k7;have hz4:=aj HX4.out;have HB4:=Z hbk;have HC4:=Z (HC.out.drew.trans (hch.mono (S':=fun k=>k=gs\/k=gm) (fun _ _ e=>.inr e)));clear hbk hch)
   | (go_at_call 93
      refine (re s.h n gm s.B _ ((HBK.out.block (w':=w1.drew) rfl).ch (Ch.alloc (Ch.refl (fun _=>False) _) _) id) HK.out.l HK.out.h).mono ?_;rw [HTR.out];simp only [Hd.val,Hd.cells];rintro e w4 ⟨rfl,hbk,hch⟩;have HX4:=Z (hch.keep (am (show w1.drew.heap[gs]?=_ from HBL.out) _) (fun e=>HS.out.ne e.symm));obtain ⟨k1,k2,k3,k4,k5,k6,k7,-⟩:=aO HX4.out;simp only at k1 k2 k3 k4 k5 k6 k7;have hz4:=aj HX4.out;have HB4:=Z hbk;have HC4:=Z ((HC.out.drew.alloc _).trans (hch.mono (S':=fun k=>k=gs\/k=gm) (fun _ _ e=>.inr e)));have HA4:=Z (show w4.heap[w1.heap.size]?=some (eo Hd.zero) from hch.keep (ag rfl) (by omega));obtain ⟨j0,j1,j2,j3,j4,j5,j6⟩:=aA HA4.out;obtain ⟨l0,l1,l2,l3,l4,l5⟩:=ba HA4.out;simp only [Hd.zero] at j0 j1 j2 j3 j4 j5;have HXS:=Z (iQ ((cL (Ch.refl (fun j=>j=w1.heap.size) w4) rfl ⟨xm,xp,xt,xs,xr,xc⟩).keep HX4.out (by omega)));clear hbk hch))
  all_goals
   first
   | (have HXZ:=Z ((cL (Ch.refl (fun j=>j=w1.heap.size) w4) rfl ⟨xm,xp,xt,xs,xr,xc⟩).keep HX4.out (by omega))
      have HBZ:=Z (HB4.out.ch (cL (Ch.refl (fun j=>j=w1.heap.size) w4) rfl ⟨xm,xp,xt,xs,xr,xc⟩) (by omega));have HHZ:=Z (gA HA4.out ⟨xm,xp,xt,xs,xr,xc⟩);have HCZ:=Z (HC4.out.then (cL (Ch.refl (fun j=>j=w1.heap.size) w4) rfl ⟨xm,xp,xt,xs,xr,xc⟩) (fun i e=>.inr (by have:=HC.out.size;omega)));have hgn:gs≠w1.heap.size:=by omega
      clear HXS j0 j1 j2 j3 j4 j5 j6 l0 l1 l2 l3 l4 l5 k1 k2 k3 k4 k5 k6 k7 HX4 HB4 HC4 HA4 a1 a2 a3 a4 a5 a6 a7;generalize hwf:jU w4 w1.heap.size ⟨xm,xp,xt,xs,xr,xc⟩=wz at *;have hwf2:(((((w4.setCell ⟨w1.heap.size,0,none⟩ (.int .i64 xm)).setCell ⟨w1.heap.size,1,none⟩ (.int .i64 xp)).setCell ⟨w1.heap.size,2,none⟩ (.int .i64 xt)).setCell ⟨w1.heap.size,3,none⟩ (.int .i64 xs)).setCell ⟨w1.heap.size,4,none⟩ (.int .i64 xr)).setCell ⟨w1.heap.size,5,none⟩ (.int .u64 xc)=wz:=hwf;rw [hwf2];generalize w1.heap.size=gr at *;clear hwf hwf2)
   | (have HXZ:=Z (am HX4.out (eo ⟨xm,xp,xt,xs,xr,xc⟩))
      have HBZ:=Z (HB4.out.ch (Ch.alloc (Ch.refl (fun _=>False) w4) (eo ⟨xm,xp,xt,xs,xr,xc⟩)) id);have HHZ:=Z (ag (w0:=w4) (g:=w4.heap.size) (o:=eo ⟨xm,xp,xt,xs,xr,xc⟩) rfl);have HCZ:=Z (HC4.out.alloc (eo ⟨xm,xp,xt,xs,xr,xc⟩));have hgn:gs≠w4.heap.size:=by omega
      clear k1 k2 k3 k4 k5 k6 k7 HX4 HB4 HC4 a1 a2 a3 a4 a5 a6 a7;generalize hwf:w4.alloc (eo ⟨xm,xp,xt,xs,xr,xc⟩)=wz at *;have hwf2:w4.alloc (.cells #[.int .i64 xm,.int .i64 xp,.int .i64 xt,.int .i64 xs,.int .i64 xr,.int .u64 xc] 51)=wz:=hwf;rw [hwf2];generalize w4.heap.size=gr at *;clear hwf hwf2)
   obtain ⟨x1,x2,x3,x4,x5,x6,x7,x8⟩:=aO HXZ.out;obtain ⟨h0,h1,h2,h3,h4,h5,h6⟩:=aA HHZ.out;have f1:=ab HXZ.out 1;have f2:=ab HXZ.out 2;have f3:=ab HXZ.out 3;have f4:=ab HXZ.out 4;have f5:=ab HXZ.out 5;have f6:=ab HXZ.out 6;simp only at x1 x2 x3 x4 x5 x6 x7 h0 h1 h2 h3 h4 h5;by_cases he:te=0
   ·subst he;have hok:=wH (n:=n) HK.out.h HK.out.l (by rw [HTR.out]);rw [HTR.out] at hok;simp only at hok;have HOK1:=Z hok.1;have HOK2:=Z hok.2;clear hok
    have HV:=Z (show cA s n=0/\cX s n={ s with h:=⟨xm,xp,xt,xs,xr,xc⟩,B:=tB,left:=(bF s).left } by
     have he:cA s n=0:=by rw [HE.out,HTR.out]
     refine ⟨he,?_⟩;unfold cX;rw [if_pos he,HTR.out]
     conv=>lhs;rw [eg s])
    have HX8:=Z (iR HXZ.out ⟨xm,xp,xt,xs,xr,xc⟩);have HB8:=Z (HBZ.out.ch (gK (Ch.refl (fun j=>j=gs) wz) rfl ⟨xm,xp,xt,xs,xr,xc⟩) HS.out.ne);have HC8:=Z (gK (g:=gs) HCZ.out (.inl rfl) ⟨xm,xp,xt,xs,xr,xc⟩);go_upto_region 7 with fail
    generalize hwf:yy wz gs ⟨xm,xp,xt,xs,xr,xc⟩=w8 at *;have hwf2:(((((wz.setCell ⟨gs,1,none⟩ (.int .i64 xm)).setCell ⟨gs,2,none⟩ (.int .i64 xp)).setCell ⟨gs,3,none⟩ (.int .i64 xt)).setCell ⟨gs,4,none⟩ (.int .i64 xs)).setCell ⟨gs,5,none⟩ (.int .i64 xr)).setCell ⟨gs,6,none⟩ (.int .u64 xc)=w8:=hwf;rw [hwf2];clear hwf hwf2 x1 x2 x3 x4 x5 x6 x7 h0 h1 h2 h3 h4 h5 f1 f2 f3 f4 f5 f6;go_wp2_with fail;go_ret;refine ⟨by rw [HV.out.1];rfl,?_,HC8.out⟩;rw [HV.out.2];exact ⟨HX8.out,HB8.out,HS.out.ne,⟨HOK1.out,HOK2.out,(fC HK.out).1,(fC HK.out).2⟩⟩
   ·have he2:(te == 0)=false:=by simpa using he
    have HV:=Z (show cA s n=te/\cX s n=bF s/\tB=s.B by
     have h1:cA s n=te:=by rw [HE.out,HTR.out]
     have h2:=xX (h:=s.h) (B:=s.B) (n:=n) (by rw [HTR.out];exact he);rw [HTR.out] at h2;refine ⟨h1,?_,h2⟩;unfold cX;rw [h1,if_neg he])
    go_wp2_with fail;go_ret;refine ⟨by rw [HV.out.1];rfl,?_,HCZ.out⟩;rw [HV.out.2.1];refine ⟨by rw [eg s];exact HXZ.out,?_,HS.out.ne,HS.out.ok⟩;rw [fP,<- HV.out.2.2];exact HBZ.out
 ·have hb1:(be == 0)=false:=by simpa using h0
  have HV:=Z (show cA s n=be/\cX s n=bF s by
   have h1:cA s n=be:=by unfold cA;rw [HBE.out,if_pos h0]
   refine ⟨h1,?_⟩;unfold cX;rw [h1,if_neg h0])
  go_wp2_with fail;go_ret;exact ⟨by rw [HV.out.1];rfl,by rw [HV.out.2];exact HS.out,HC.out⟩
end Go.Proofs.YtknioodagnjchaaGreatDoor
namespace Go.Proofs.YtknioodagnjchaaGreatDoor
open List renaming mem_cons_self->Bt,length_append->Bv,mem_append_left->Bw,mem_append_right->Bx,append_assoc->Bz,drop_succ_cons->BA,length_cons->BB,drop_of_length_le->BC,perm_middle->BD,length_nil->BE,not_mem_nil->BF,mem_cons->BG,mem_cons_of_mem->BH,take_left'->BI,mem_append->BJ,nil_append->BL,nodup_cons->BM,singleton_append->BO,drop_zero->BP,replicate->BQ,flatMap_cons->BR,drop_append->BS,getElem_mem->BT,cons_append->BU,append_nil->BV,drop_left'->BW
open List.Perm renaming nodup_iff->BK,append_left->BN,cons->BX,swap->BY,refl->BZ
theorem oQ:∀ (l:List Int) (z:By) (i:Nat) (h:i<l.length),(((l.flatMap fun n=>aR 4 n.toNat) ++ z).drop (4 * i)).take 4=aR 4 l[i].toNat
 | [],_,i,h=>by simp at h
 | a :: l,z,0,h=>by
   simp only [BR,Nat.mul_zero,BP,List.getElem_cons_zero,Bz];rw [BI (aF 4 _)]
 | a :: l,z,i+1,h=>by
   simp only [BR,Bz,List.getElem_cons_succ]
   rw [show 4 * (i+1)=(aR 4 a.toNat).length+4 * i by rw [aF];omega,BS,BC (by omega),BL,
    show (aR 4 a.toNat).length+4 * i - (aR 4 a.toNat).length=4 * i by omega]
   exact oQ l z i (by simpa using h)
theorem jh {t:Tk} (h:bX t=false):dB (aK (gD t))=t:=by
 obtain ⟨h1,h2,h3,h4⟩:=lA h;have hl:=tb (t:=t);rw [lx (by omega)];generalize BQ (232 - (gD t).length) (0:UInt8)=z;obtain ⟨nx,ls⟩:=t;simp only at h1 h2 h3 h4;have hb:gD ⟨nx,ls⟩ ++ z=4 :: (aR 4 nx.toNat ++ (UInt8.ofNat (ls.length % 256) :: ((ls.flatMap fun n=>aR 4 n.toNat) ++ z))):=by simp [gD,aR]
 have hd:(gD ⟨nx,ls⟩ ++ z).getD 5 0=UInt8.ofNat ls.length:=by rw [hb];simp [aR];rw [Nat.mod_eq_of_lt (by omega)]
 have hm:min ((gD ⟨nx,ls⟩ ++ z).getD 5 0).toNat 50=ls.length:=by rw [hd,du (by omega)];omega
 unfold dB;rw [hm];congr 1
 ·rw [hb,BA,BP];unfold mM;rw [BI (aF 4 _),gU 4 _ (by omega)];omega
 ·refine List.ext_getElem (by simp) fun i hi1 hi2=>?_
  have hi:i<ls.length:=hi2;have h5:=h4 ls[i] (BT hi);rw [List.getElem_map,List.getElem_range]
  rw [show (gD ⟨nx,ls⟩ ++ z).drop (6+4 * i)=((ls.flatMap fun n=>aR 4 n.toNat) ++ z).drop (4 * i) by
   rw [hb,show 6+4 * i=(5+4 * i)+1 by omega,BA,show 5+4 * i=(aR 4 nx.toNat).length+(4 * i+1) by rw [aF];omega,BS,BC (by omega),BL,
    show (aR 4 nx.toNat).length+(4 * i+1) - (aR 4 nx.toNat).length=4 * i+1 by omega,BA]]
  unfold mM;rw [oQ ls z i hi,gU 4 _ (by omega)];omega
theorem jz {t:Tk} (h:bX t=false):ef (aK (gD t))=true:=by unfold ef;rw [jh h,h];simp
inductive FreeL (B:Int->By):Int->List Int->Prop where
 | nil:FreeL B 0 []
 | cons {t next:Int} {l F:List Int}:t≠0->ef (B t)=true->dB (B t)=⟨next,l⟩->FreeL B next F->FreeL B t (t :: (l ++ F))
theorem FreeL.congr {B B':Int->By} {t:Int} {F:List Int} (h:FreeL B t F) (hb:∀ p ∈ F,B' p=B p):FreeL B' t F:=by
 induction h with
 | nil=>exact .nil
 | cons h0 h1 h2 _ ih=> have e:=hb _ Bt;exact .cons h0 (by rw [e];exact h1) (by rw [e];exact h2) (ih fun p hp=>hb p (by simp [hp]))
theorem FreeL.zero {B:Int->By} {t:Int} {F:List Int} (h:FreeL B t F):t=0↔F=[]:=by
 cases h with
 | nil=>simp
 | cons h0=>simp [h0]
theorem FreeL.mem {B:Int->By} {t:Int} {F:List Int} (h:FreeL B t F) (h0:t≠0):t ∈ F:=by
 cases h with
 | nil=>exact absurd rfl h0
 | cons=>exact Bt
theorem FreeL.inv {B:Int->By} {t:Int} {F:List Int} (h:FreeL B t F) (h0:t≠0):∃ next l F2,F=t :: (l ++ F2)/\ef (B t)=true/\dB (B t)=⟨next,l⟩/\FreeL B next F2:=by
 cases h with
 | nil=>exact absurd rfl h0
 | cons _ h1 h2 h3=>exact ⟨_,_,_,rfl,h1,h2,h3⟩
structure Ow (s:Sf) (U F:List Int):Prop where
 ok:s.Ok
 lim:s.lim=4096
 left:s.left=-1
 fl:FreeL s.B s.h.trunk F
 sp:s.h.spare=F.length
 nd:(U ++ F).Nodup
 rng:∀ p,p ∈ U ++ F↔1<=p/\p<s.h.pages
theorem oA:∀ (N:Nat) (L:List Int),L.Nodup->(∀ p,p ∈ L↔1<=p/\p<(N:Int)+1)->L.length=N
 | 0,L,_,h=>by
   cases L with
   | nil=>rfl
   | cons a L=>have:=(h a).1 Bt;omega
 | N+1,L,hn,h=>by
   have hm:(N:Int)+1 ∈ L:=(h _).2 (by omega)
   have h1:=oA N (L.erase ((N:Int)+1)) (hn.erase _) (fun p=>by
    rw [hn.mem_erase_iff,h p];constructor
    ·intro h;omega
    ·intro h;omega)
   rw [List.length_erase_of_mem hm] at h1;have:=List.length_pos_of_mem hm;omega
theorem Ow.count {s:Sf} {U F:List Int} (h:Ow s U F):(U.length+F.length:Int)+1=s.h.pages:=by have hp:=h.ok.h.p1;have:=oA (s.h.pages - 1).toNat (U ++ F) h.nd (fun p=>by rw [h.rng p];omega);rw [Bv] at this;omega
theorem Ow.perm {s:Sf} {U U' F:List Int} (h:Ow s U F) (hp:U.Perm U'):Ow s U' F:=
 { h with nd:=(hp.append_right F).nodup_iff.1 h.nd,rng:=fun p=>by rw [<- h.rng p];exact ((hp.append_right F).mem_iff).symm }
theorem Ow.Bc {s:Sf} {U F:List Int} (h:Ow s U F) {p:Int} (hp:p ∈ U):1<=p/\p<s.h.pages:=(h.rng p).1 (Bw _ hp)
theorem Ow.Bk {s:Sf} {U F:List Int} (h:Ow s U F) {p:Int} (hp:p ∈ U):p ∉ F:=fun hf=>(List.nodup_append.1 h.nd).2.2 p hp p hf rfl
theorem Ow.AM {s:Sf} {U F:List Int} (h:Ow s U F):bF s=s:=by unfold bF;rw [if_neg (by rw [h.left];omega)]
theorem Ow.Bl {s:Sf} {U F:List Int} (h:Ow s U F) {p:Int} (hp:p ∈ U):bt s p=0:=by have:=h.Bc hp;unfold bt;rw [if_neg (by rw [h.left];omega),if_neg (by omega)]
theorem Ow.get {s:Sf} {U F:List Int} (h:Ow s U F) {p:Int} (hp:p ∈ U) {α:Type} (k:By->Pro α):(Pro.get p k).run s=(k (s.B p)).run s:=by rw [Pro.run,if_pos (h.Bl hp),h.AM]
def eN (s:Sf) (p:Int) (d:By):Sf:={ s with B:=bN s.B p d }
theorem dD (B:Int->By) (p:Int) (d:By):bN B p d p=d:=by simp [bN]
theorem aZ (B:Int->By) {p q:Int} (d:By) (h:q≠p):bN B p d q=B q:=by simp [bN,h]
theorem Ow.put {s:Sf} {U F:List Int} (h:Ow s U F) {p:Int} (hp:p ∈ U) {d:By} (hd:d.length=232) {α:Type} (k:Unit->Pro α):
  (Pro.put p d k).run s=(k ()).run (eN s p d)/\Ow (eN s p d) U F:=by
 have hb:=h.Bl hp;refine ⟨?_,{ ok:=⟨h.ok.h,cF h.ok.l hd,h.ok.l0,h.ok.l1⟩,lim:=h.lim,left:=h.left,fl:=h.fl.congr (fun q hq=>aZ _ _ (fun e=>h.Bk hp (e ▸ hq))),sp:=h.sp,nd:=h.nd,rng:=h.rng }⟩;rw [Pro.run,if_pos (by unfold kV;rw [if_pos hb,if_pos hd])];congr 1;unfold kU eN;rw [if_pos ⟨hb,hd⟩,h.AM]
theorem Hd.AA {h:Hd} (hk:h.Ok) (h2:h.pages<4096):Hd.Ok { h with pages:=h.pages+1 }:=⟨by have:=hk.p1;simp only;omega,by simp only;omega,hk.t0,hk.t1,hk.s0,hk.s1⟩
theorem ux {s:Sf} (h1:s.left=-1) (h2:¬ (s.h.spare=0/\s.lim<=s.h.pages)):br s=(bH s.h s.B).e:=by unfold br;rw [if_neg (by omega),if_neg h2]
theorem Ow.new {s:Sf} {U F:List Int} (h:Ow s U F) (hU:U.length<4095):∃ n s' F',(∀ {α:Type} (k:Int->Pro α),(Pro.new k).run s=(k n).run s')/\n ∉ U/\Ow s' (n :: U) F'/\s'.B n=blankL/\(∀ p ∈ U,s'.B p=s.B p)/\s'.h.root=s.h.root/\s.h.pages<=s'.h.pages/\(F.length=F'.length+1\/F=[]/\F'=[]):=by
 suffices hh:∃ n h' B',(bH s.h s.B)=⟨n,h',0,B'⟩/\¬ (s.h.spare=0/\s.lim<=s.h.pages)/\n ∉ U/\h'.root=s.h.root/\s.h.pages<=h'.pages/\∃ F',(F.length=F'.length+1\/F=[]/\F'=[])/\Ow { s with h:=h',B:=bN B' n blankL } (n :: U) F'/\(∀ p ∈ U,bN B' n blankL p=s.B p) by
  obtain ⟨n,h',B',ht,hr,hn,hrt,hpg,F',hF,ho,hb⟩:=hh;have he:br s=0:=by rw [ux h.left hr,ht]
  refine ⟨n,{ s with h:=h',B:=bN B' n blankL },F',fun k=>?_,hn,ho,dD _ _ _,hb,hrt,hpg,hF⟩;rw [Pro.run,if_pos he];unfold bR aJ;rw [if_pos he,if_pos he,ht,h.AM]
 have hc:=h.count;have hp1:=h.ok.h.p1;have hp2:=h.ok.h.p2;by_cases hF:F=[]
 ·subst hF;have h0:s.h.spare=0:=by rw [h.sp];rfl
  have hpg:s.h.pages<4096:=by simp at hc;omega
  have hn:s.h.pages ∉ U:=fun hm=>by have:=h.Bc hm;omega
  refine ⟨s.h.pages,{ s.h with pages:=s.h.pages+1 },s.B,by unfold bH;rw [if_pos h0,if_neg (by omega)],by rw [h.lim];omega,hn,rfl,by simp only;omega,[],.inr ⟨rfl,rfl⟩,?_,fun p hp=>aZ _ _ (fun e=>hn (e ▸ hp))⟩;refine { ok:=⟨Hd.AA h.ok.h hpg,cF h.ok.l dP,h.ok.l0,h.ok.l1⟩,lim:=h.lim,left:=h.left,fl:=?_,sp:=h.sp,nd:=?_,rng:=fun p=>?_ }
  ·exact h.fl.congr (fun p hp=>absurd hp BF)
  ·have:=h.nd;rw [BV] at *;exact List.nodup_cons.2 ⟨hn,this⟩
  ·have:=h.rng p;simp only [BV,BG] at *;rw [this];constructor
   ·intro h;omega
   ·intro h;omega
 ·have h0:s.h.spare≠0:=by rw [h.sp];have:=List.length_pos_iff.2 hF;omega
  have ht:s.h.trunk≠0:=fun e=>hF (h.fl.zero.1 e)
  obtain ⟨next,l,F2,rfl,hok,hdp,hf2⟩:=h.fl.inv ht
  ·skip;have hnd:=h.nd;have hnd2:(s.h.trunk :: (l ++ F2)).Nodup:=(List.nodup_append.1 hnd).2.1;have hdis:=(List.nodup_append.1 hnd).2.2;rw [BM] at hnd2;have hnd3:=List.nodup_append.1 hnd2.2;have hbad:bX ⟨next,l⟩=false:=by rw [<- hdp];exact hZ hok
   obtain ⟨t1,t2,t3,t4⟩:=lA hbad;simp only at t1 t2 t3 t4;have hin:∀ p,p ∈ s.h.trunk :: (l ++ F2)->1<=p/\p<s.h.pages:=fun p hp=>(h.rng p).1 (Bx _ hp)
   have hnx:next<s.h.pages:=by
    by_cases e:next=0
    ·omega
    ·exact (hin next (by simp [hf2.mem e])).2
   have htk:(bH s.h s.B)=if fS ⟨next,l⟩ s.h.pages then eb s.B 30
     else if 0<l.length then ⟨l.getD (l.length - 1) 0,{ s.h with spare:=s.h.spare - 1 },0,bN s.B s.h.trunk (aK (gD ⟨next,l.take (l.length - 1)⟩))⟩
     else if ((next == 0) != (s.h.spare == 1)) then eb s.B 30
     else ⟨s.h.trunk,{ s.h with trunk:=next,spare:=s.h.spare - 1 },0,s.B⟩:=by
    unfold bH;rw [if_neg h0,if_neg (by rw [hok];simp)];simp only [hdp]
   have hlen:(s.h.trunk :: (l ++ F2)).length=1+l.length+F2.length:=by simp;omega
   have hsp:=h.sp;rw [hlen] at hsp;have hab:fS ⟨next,l⟩ s.h.pages=false:=by
    unfold fS;rw [decide_eq_false (by simp only;omega),Bool.false_or];by_cases hl:0<l.length
    ·rw [decide_eq_true hl,Bool.true_and];have hx:l.getD (l.length - 1) 0 ∈ l:=by rw [List.getD_eq_getElem?_getD,List.getElem?_eq_getElem (by omega)];exact BT _
     have:=hin _ (show l.getD (l.length - 1) 0 ∈ s.h.trunk :: (l ++ F2) from BH _ (Bw _ hx));exact decide_eq_false (by simp only;omega)
    ·rw [decide_eq_false hl,Bool.false_and]
   rw [hab,if_neg (by simp)] at htk;by_cases hl:0<l.length
   ·rw [if_pos hl] at htk;obtain ⟨m,x,rfl⟩:∃ m x,l=m ++ [x]:=⟨l.dropLast,l.getLast (by intro e;subst e;simp at hl),(List.dropLast_concat_getLast _).symm⟩;have e1:(m ++ [x]).getD ((m ++ [x]).length - 1) 0=x:=by simp
    have e2:(m ++ [x]).take ((m ++ [x]).length - 1)=m:=by simp
    rw [e1,e2] at htk;have hxU:x ∉ U:=fun hm=>hdis x hm x (by simp) rfl
    have htU:s.h.trunk ∉ U:=fun hm=>hdis _ hm _ (by simp) rfl
    have hxt:x≠s.h.trunk:=fun e=>hnd2.1 (by rw [<- e];simp)
    have hx2:x ∉ F2:=fun hm=>hnd3.2.2 x (by simp) x hm rfl
    have htF2:s.h.trunk ∉ F2:=fun hm=>hnd2.1 (by simp [hm])
    have hb2:bX ⟨next,m⟩=false:=by have:=mt hbad m.length;simpa using this
    refine ⟨x,_,_,htk,fun hh=>h0 hh.1,hxU,rfl,Int.le_refl _,s.h.trunk :: (m ++ F2),.inl (by simp;omega),?_,fun p hp=>?_⟩
    ·refine { ok:=⟨⟨h.ok.h.p1,h.ok.h.p2,h.ok.h.t0,h.ok.h.t1,by simp only;omega,by have:=h.ok.h.s1;simp only;omega⟩,cF (cF h.ok.l (er _)) dP,h.ok.l0,h.ok.l1⟩,lim:=h.lim,left:=h.left,fl:=?_,sp:=?_,nd:=?_,rng:=fun p=>?_ }
     ·refine .cons ht (next:=next) ?_ ?_ (hf2.congr fun p hp=>?_)
      ·show ef (bN _ _ _ s.h.trunk)=true;rw [aZ _ _ hxt.symm,dD];exact jz hb2
      ·show dB (bN _ _ _ s.h.trunk)=_;rw [aZ _ _ hxt.symm,dD];exact jh hb2
      ·show bN _ _ _ p=_;rw [aZ _ _ (fun e=>hx2 (by rw [<- e];exact hp)),aZ _ _ (fun e=>htF2 (by rw [<- e];exact hp))]
     ·simp only [BB,Bv,BE] at *;omega
     ·refine (BK ?_).1 hnd;have:(U ++ (s.h.trunk :: (m ++ [x] ++ F2))).Perm (x :: (U ++ (s.h.trunk :: (m ++ F2)))):=by refine List.Perm.trans (BN U ?_) (BD (a:=x) (l₁:=U));rw [Bz,BO];exact (BX _ BD).trans (BY _ _ _)
      exact this
     ·have:=h.rng p;show _↔1<=p/\p<s.h.pages;rw [<- this];simp only [BJ,BG,BF,or_false];constructor
      ·rintro ((h | h) | h | h | h) <;> simp [h]
      ·rintro (h | h | (h | h) | h) <;> simp [h]
    ·rw [aZ _ _ (fun e=>hxU (by rw [<- e];exact hp)),aZ _ _ (fun e=>htU (by rw [<- e];exact hp))]
   ·have hl0:l=[]:=List.length_eq_zero_iff.1 (by omega);subst hl0;rw [if_neg (by simp)] at htk;simp only [BL,BE] at *;have hz:=hf2.zero;have hchk:((next == 0) != (s.h.spare == 1))=false:=by
     by_cases e:next=0
     ·have:F2=[]:=hz.1 e;subst this;simp [e];rw [hsp];simp
     ·have:F2≠[]:=fun hh=>e (hz.2 hh)
      have:=List.length_pos_iff.2 this;have e2:s.h.spare≠1:=by omega
      rw [beq_eq_false_iff_ne.2 e,beq_eq_false_iff_ne.2 e2];rfl
    rw [hchk,if_neg (by simp)] at htk;have htU:s.h.trunk ∉ U:=fun hm=>hdis _ hm _ (by simp) rfl
    refine ⟨s.h.trunk,_,_,htk,fun hh=>h0 hh.1,htU,rfl,Int.le_refl _,F2,.inl (by simp),?_,fun p hp=>aZ _ _ (fun e=>htU (e ▸ hp))⟩;refine { ok:=⟨⟨h.ok.h.p1,h.ok.h.p2,by simp only;omega,by simp only;omega,by simp only;omega,by have:=h.ok.h.s1;simp only;omega⟩,cF h.ok.l dP,h.ok.l0,h.ok.l1⟩,lim:=h.lim,left:=h.left,fl:=?_,sp:=?_,nd:=?_,rng:=fun p=>?_ }
    ·exact hf2.congr fun p hp=>aZ _ _ (fun e=>hnd2.1 (e ▸ hp))
    ·simp only;omega
    ·exact (BK BD).1 hnd
    ·show _↔1<=p/\p<s.h.pages;rw [<- h.rng p];simp only [BJ,BG];constructor
     ·rintro ((h | h) | h) <;> simp [h]
     ·rintro (h | h | h) <;> simp [h]
theorem Ow.free {s:Sf} {U F:List Int} {n:Int} (h:Ow s (n :: U) F):∃ s' F',(∀ {α:Type} (k:Unit->Pro α),(Pro.free n k).run s=(k ()).run s')/\Ow s' U F'/\(∀ p ∈ U,s'.B p=s.B p)/\s'.h.root=s.h.root/\s'.h.pages=s.h.pages/\F'.length=F.length+1:=by
 have hc:=h.count;have hnin:=h.Bc (p:=n) Bt;have hnd:=h.nd;rw [BU,BM] at hnd;have hnU:n ∉ U:=fun hm=>hnd.1 (Bw _ hm)
 have hnF:n ∉ F:=fun hm=>hnd.1 (Bx _ hm)
 have hdis:=(List.nodup_append.1 hnd.2).2.2;have hs1:¬ s.h.pages - 1<=s.h.spare:=by rw [h.sp];simp only [BB] at hc;omega
 have hp2:=h.ok.h.p2
 suffices hh:∃ h' B' F',di s.h s.B n=⟨h',0,B'⟩/\Ow { s with h:=h',B:=B' } U F'/\(∀ p ∈ U,B' p=s.B p)/\h'.root=s.h.root/\h'.pages=s.h.pages/\F'.length=F.length+1 by
  obtain ⟨h',B',F',hg,ho,hb,hr,hpg,hl⟩:=hh;have he:cA s n=0:=by unfold cA;rw [h.Bl Bt,hg];rfl
  refine ⟨_,F',fun k=>?_,ho,hb,hr,hpg,hl⟩;rw [Pro.run,if_pos he];congr 1;unfold cX;rw [if_pos he,h.AM,hg]
 have hfull0:bX ⟨0,[]⟩=false:=rfl
 have hgive:di s.h s.B n=if s.h.trunk=0 then ⟨{ s.h with trunk:=n,spare:=s.h.spare+1 },0,bN s.B n (aK (gD ⟨0,[]⟩))⟩
   else if ef (s.B s.h.trunk)=false then ix s.B 30
   else if (dB (s.B s.h.trunk)).list.length<50 then ⟨{ s.h with spare:=s.h.spare+1 },0,bN s.B s.h.trunk (aK (gD ⟨(dB (s.B s.h.trunk)).next,(dB (s.B s.h.trunk)).list ++ [n]⟩))⟩
   else ⟨{ s.h with trunk:=n,spare:=s.h.spare+1 },0,bN s.B n (aK (gD ⟨s.h.trunk,[]⟩))⟩:=by
  unfold di;rw [if_neg (by omega),if_neg hs1]
 have rng':∀ F':List Int,(∀ p,p ∈ F'↔p=n\/p ∈ F)->∀ p,p ∈ U ++ F'↔1<=p/\p<s.h.pages:=fun F' hF' p=>by
  rw [<- h.rng p];simp only [BU,BG,BJ,hF'];constructor
  ·rintro (h | h | h) <;> simp [h]
  ·rintro (h | h | h) <;> simp [h]
 have nd':∀ F':List Int,F'.Perm (n :: F)->(U ++ F').Nodup:=fun F' hF'=>by
  refine (BK ((BN U hF').trans BD)).2 ?_;exact List.nodup_cons.2 hnd
 have hsp1:s.h.spare+1<=4096:=by omega
 have hs0:=h.ok.h.s0;by_cases ht:s.h.trunk=0
 ·rw [if_pos ht] at hgive;have hF:F=[]:=h.fl.zero.1 ht;subst hF;refine ⟨_,_,[n],hgive,?_,fun p hp=>aZ _ _ (fun e=>hnU (e ▸ hp)),rfl,rfl,rfl⟩;refine { ok:=⟨⟨h.ok.h.p1,h.ok.h.p2,by show (0:Int)<=n;omega,by show n<4096;omega,by show 0<=s.h.spare+1;omega,by show s.h.spare+1<=4096;omega⟩,cF h.ok.l (er _),h.ok.l0,h.ok.l1⟩,lim:=h.lim,left:=h.left,fl:=?_,sp:=?_,nd:=nd' _ (BZ _),rng:=rng' _ (fun p=>by simp) }
  ·refine FreeL.cons (l:=[]) (F:=[]) (next:=0) (show n≠0 by omega) ?_ ?_ .nil
   ·show ef (bN _ _ _ n)=true;rw [dD];exact jz hfull0
   ·show dB (bN _ _ _ n)=_;rw [dD];exact jh hfull0
  ·have:=h.sp;show s.h.spare+1=1;simp only [BE] at this;omega
 ·rw [if_neg ht] at hgive;have hfl:=h.fl;obtain ⟨next,l,F2,rfl,hok,hdp,hf2⟩:=h.fl.inv ht
  ·skip;have hbad:bX ⟨next,l⟩=false:=by rw [<- hdp];exact hZ hok
   rw [hok,hdp,if_neg (by simp)] at hgive;simp only at hgive;have htU:s.h.trunk ∉ U:=fun hm=>hdis _ hm _ (by simp) rfl
   have htn:s.h.trunk≠n:=fun e=>hnF (by rw [<- e];simp)
   have hnF2:n ∉ F2:=fun hm=>hnF (by simp [hm])
   have hnd2:(s.h.trunk :: (l ++ F2)).Nodup:=(List.nodup_append.1 hnd.2).2.1;rw [BM] at hnd2;have htF2:s.h.trunk ∉ F2:=fun hm=>hnd2.1 (by simp [hm])
   obtain ⟨t1,t2,t3,t4⟩:=lA hbad;simp only at t1 t2 t3 t4;by_cases h50:l.length<50
   ·rw [if_pos h50] at hgive;have hb2:bX ⟨next,l ++ [n]⟩=false:=by unfold bX at hbad ⊢;simp only [Bool.or_eq_false_iff,List.any_append] at hbad ⊢;refine ⟨⟨hbad.1.1,by simp;omega⟩,hbad.2,?_⟩;simp [fI];omega
    refine ⟨_,_,s.h.trunk :: ((l ++ [n]) ++ F2),hgive,?_,fun p hp=>aZ _ _ (fun e=>htU (e ▸ hp)),rfl,rfl,by simp;omega⟩;refine { ok:=⟨⟨h.ok.h.p1,h.ok.h.p2,h.ok.h.t0,h.ok.h.t1,by simp only;omega,by simp only;omega⟩,cF h.ok.l (er _),h.ok.l0,h.ok.l1⟩,lim:=h.lim,left:=h.left,fl:=?_,sp:=?_,nd:=nd' _ ?_,rng:=rng' _ (fun p=>?_) }
    ·refine FreeL.cons (next:=next) ht ?_ ?_ (hf2.congr fun p hp=>aZ _ _ (fun e=>htF2 (e ▸ hp)))
     ·show ef (bN _ _ _ s.h.trunk)=true;rw [dD];exact jz hb2
     ·show dB (bN _ _ _ s.h.trunk)=_;rw [dD];exact jh hb2
    ·have:=h.sp;simp only [BB,Bv,BE] at *;omega
    ·rw [Bz,BO];exact (BX _ BD).trans (BY _ _ _)
    ·simp only [BG,BJ,BF,or_false];constructor
     ·rintro (h | (h | h) | h) <;> simp [h]
     ·rintro (h | h | h | h) <;> simp [h]
   ·rw [if_neg h50] at hgive;have hb2:bX ⟨s.h.trunk,[]⟩=false:=by have h1:=h.ok.h.t0;have h2:=h.ok.h.t1;unfold bX;simp [fI];omega
    refine ⟨_,_,n :: ([] ++ (s.h.trunk :: (l ++ F2))),hgive,?_,fun p hp=>aZ _ _ (fun e=>hnU (e ▸ hp)),rfl,rfl,by simp⟩;refine { ok:=⟨⟨h.ok.h.p1,h.ok.h.p2,by show (0:Int)<=n;omega,by show n<4096;omega,by show 0<=s.h.spare+1;omega,by show s.h.spare+1<=4096;omega⟩,cF h.ok.l (er _),h.ok.l0,h.ok.l1⟩,lim:=h.lim,left:=h.left,fl:=?_,sp:=?_,nd:=nd' _ (BZ _),rng:=rng' _ (fun p=>by simp) }
    ·refine FreeL.cons (next:=s.h.trunk) (show n≠0 by omega) ?_ ?_ (hfl.congr fun p hp=>aZ _ _ (fun e=>hnF (e ▸ hp)))
     ·show ef (bN _ _ _ n)=true;rw [dD];exact jz hb2
     ·show dB (bN _ _ _ n)=_;rw [dD];exact jh hb2
    ·have:=h.sp;simp only [BB,Bv,BE] at *;omega
def Hp (s:Sf) (U:List Int):Prop:=∃ F,Ow s U F
structure Kp (X:List Int) (s s':Sf):Prop where
 b:∀ p ∈ X,s'.B p=s.B p
 root:s'.h.root=s.h.root
 pages:s.h.pages<=s'.h.pages
theorem Kp.refl (X:List Int) (s:Sf):Kp X s s:=⟨fun _ _=>rfl,rfl,Int.le_refl _⟩
theorem Kp.trans {X:List Int} {a b c:Sf} (h:Kp X a b) (h2:Kp X b c):Kp X a c:=⟨fun p hp=>(h2.b p hp).trans (h.b p hp),h2.root.trans h.root,Int.le_trans h.pages h2.pages⟩
theorem Kp.sub {X Y:List Int} {a b:Sf} (h:Kp X a b) (hs:∀ p ∈ Y,p ∈ X):Kp Y a b:=⟨fun p hp=>h.b p (hs p hp),h.root,h.pages⟩
theorem Hp.perm {s:Sf} {U U':List Int} (h:Hp s U) (hp:U.Perm U'):Hp s U':=let ⟨F,h⟩:=h;⟨F,h.perm hp⟩
theorem Hp.nd {s:Sf} {U:List Int} (h:Hp s U):U.Nodup:=let ⟨_,h⟩:=h;(List.nodup_append.1 h.nd).1
theorem Hp.rng {s:Sf} {U:List Int} (h:Hp s U) {p:Int} (hp:p ∈ U):1<=p/\p<4096:=by obtain ⟨F,h⟩:=h;have:=h.Bc hp;have:=h.ok.h.p2;omega
theorem Hp.pg {s:Sf} {U:List Int} (h:Hp s U) {p:Int} (hp:p ∈ U):cI p=true:=by have:=h.rng hp;simp [cI];omega
theorem Hp.get {s:Sf} {U:List Int} (h:Hp s U) {p:Int} (hp:p ∈ U) {α:Type} (k:By->Pro α):(Pro.get p k).run s=(k (s.B p)).run s:=let ⟨_,h⟩:=h;h.get hp k
theorem Hp.put {s:Sf} {U:List Int} (h:Hp s U) {p:Int} (hp:p ∈ U) {d:By} (hd:d.length=232) {α:Type} (k:Unit->Pro α):
  (Pro.put p d k).run s=(k ()).run (eN s p d)/\Hp (eN s p d) U:=by
 obtain ⟨F,h⟩:=h;have:=h.put hp hd k;exact ⟨this.1,F,this.2⟩
theorem gN {X:List Int} {s:Sf} {p:Int} {d:By} (hp:p ∉ X):Kp X s (eN s p d):=⟨fun _ hq=>aZ _ _ (fun e=>hp (e ▸ hq)),rfl,Int.le_refl _⟩
theorem qh {s:Sf} {p:Int} {d:By}:(eN s p d).B p=d:=dD _ _ _
theorem Hp.new {s:Sf} {U:List Int} (h:Hp s U) (hU:U.length<4095):∃ n s',(∀ {α:Type} (k:Int->Pro α),(Pro.new k).run s=(k n).run s')/\n ∉ U/\Hp s' (n :: U)/\Kp U s s':=by obtain ⟨F,h⟩:=h;obtain ⟨n,s',F',h1,h2,h3,_,h5,h6,h7,_⟩:=h.new hU;exact ⟨n,s',h1,h2,⟨F',h3⟩,⟨h5,h6,h7⟩⟩
theorem Hp.free {s:Sf} {U:List Int} {n:Int} (h:Hp s (n :: U)):∃ s',(∀ {α:Type} (k:Unit->Pro α),(Pro.free n k).run s=(k ()).run s')/\Hp s' U/\Kp U s s':=by obtain ⟨F,h⟩:=h;obtain ⟨s',F',h1,h2,h3,h4,h5,_⟩:=h.free;exact ⟨s',h1,⟨F',h2⟩,⟨h3,h4,by omega⟩⟩
inductive Lk (B:Int->By):Nat->Int->By->List Int->Prop where
 | nil {p:Int}:Lk B 0 p [] []
 | cons {left:Nat} {p next:Int} {part v:By} {ps:List Int}:left≠0->gx (B p) left=some (next,part)->Lk B (left - 227) next v ps->Lk B left p (part ++ v) (p :: ps)
theorem Lk.congr {B B':Int->By} {left:Nat} {p:Int} {v:By} {ps:List Int} (h:Lk B left p v ps) (hb:∀ q ∈ ps,B' q=B q):Lk B' left p v ps:=by
 induction h with
 | nil=>exact .nil
 | cons h0 h1 _ ih=>exact .cons h0 (by rw [hb _ Bt];exact h1) (ih fun q hq=>hb q (BH _ hq))
theorem Lk.len {B:Int->By} {left:Nat} {p:Int} {v:By} {ps:List Int} (h:Lk B left p v ps):ps.length=(left+226) / 227:=by
 induction h with
 | nil=>rfl
 | cons h0 _ _ ih=>rw [BB,ih];omega
theorem Lk.run {s:Sf} {U:List Int} (hs:Hp s U) {left:Nat} {p:Int} {v:By} {ps:List Int} (h:Lk s.B left p v ps):∀ f,ps.length<=f->(∀ q ∈ ps,q ∈ U)->(ma f left p).run s=(s,.ok (v,ps)):=by
 induction h with
 | nil=>intro f _ _;cases f <;> rfl
 | @cons left p next part v ps h0 h1 _ ih=>
   intro f hf hu;cases f with
   | zero=>simp at hf
   | succ f=> rw [ma,if_neg h0,hs.get (hu _ Bt),h1];exact ah (ih f (by simpa using hf) (fun q hq=>hu q (BH _ hq)))
def Cel (B:Int->By) (c:Ce) (v:By) (ps:List Int):Prop:=aI c=true/\if c.size<=40 then v=c.data/\ps=[] else Lk B c.size.toNat c.page v ps
theorem Cel.congr {B B':Int->By} {c:Ce} {v:By} {ps:List Int} (h:Cel B c v ps) (hb:∀ q ∈ ps,B' q=B q):Cel B' c v ps:=by
 unfold Cel at *;refine ⟨h.1,?_⟩;have h2:=h.2
 split at h2
 ·rename_i hc;rw [if_pos hc];exact h2
 ·rename_i hc;rw [if_neg hc];exact h2.congr hb
theorem Cel.run {s:Sf} {U:List Int} (hs:Hp s U) {c:Ce} {v:By} {ps:List Int} (h:Cel s.B c v ps) (hu:∀ q ∈ ps,q ∈ U):(bB c).run s=(s,.ok (v,ps)):=by
 have hg:=h.1;have h2:=h.2;unfold bB;rw [if_neg (by rw [hg];simp)]
 split at h2
 ·rename_i hc
  obtain ⟨_,_,h3⟩:=fJ hg (by omega);rw [if_pos h3,h2.1,h2.2];rfl
 ·rename_i hc
  obtain ⟨_,h3,_,h4⟩:=fw hg (by omega);rw [if_neg (by omega)];exact h2.run hs 23 (by rw [h2.len];omega) hu
theorem sj {part:By} {next:Int} {left:Nat} (h0:0<=next) (h1:next<4096) (hl:part.length=min 227 left) (hn:next=0↔left<=227):gx (fb part next) left=some (next,part):=by
 have e1:(fb part next).getD 0 0=3:=rfl;have e2:((fb part next).drop 1).take 4=aR 4 next.toNat:=by unfold fb;rw [BA,BP,Bz,BI (aF 4 _)]
 have e3:(fb part next).drop 5=part ++ BQ (227 - part.length) 0:=by unfold fb;rw [BA,Bz,BW (aF 4 _)]
 have e4:cw (aR 4 next.toNat)=next.toNat:=gU 4 _ (by omega);have e5:cV ((part ++ BQ (227 - part.length) 0).drop left)=true:=by
  unfold cV;rw [List.all_eq_true];intro x hx;by_cases h:left<=227
  ·rw [BW (by omega)] at hx;rw [(List.mem_replicate.1 hx).2];rfl
  ·rw [BC (by simp;omega)] at hx;exact absurd hx BF
 unfold gx;rw [e1,e2,e3,e4,if_pos ⟨rfl,by rw [<- hn];omega,e5⟩];simp only [Option.some.injEq,Prod.mk.injEq];refine ⟨by omega,?_⟩;by_cases h:left<=227
 ·rw [BI (by omega)]
 ·rw [List.take_of_length_le (by simp;omega),show 227 - part.length=0 by omega];simp
theorem us {part:By} {next:Int} (h:part.length<=227):(fb part next).length=232:=by simp [fb,aF];omega
theorem tx {v:By} (hv:v.length<=5000) {X:List Int}:∀ (j:Nat) (s:Sf) (next:Int) (ps:List Int),j<=23->Hp s (ps ++ X)->(ps ++ X).length+j<=4095->(j - 1) * 227<v.length->
  Lk s.B (v.length - j * 227) next (v.drop (j * 227)) ps->(0<=next/\next<4096)->(next=0↔v.length<=j * 227)->
  ∃ s' p ps',(jD v j next).run s=(s',.ok p)/\Hp s' (ps' ++ X)/\Kp X s s'/\Lk s'.B v.length p v ps'/\0<=p/\p<4096/\(0<j->1<=p)
 | 0,s,next,ps,_,hs,_,_,hl,hn,_=>⟨s,next,ps,rfl,hs,Kp.refl _ _,by simpa using hl,hn.1,hn.2,fun h=>absurd h (by omega)⟩
 | j+1,s,next,ps,hj,hs,hc,hv0,hl,hn,hz=>by
   obtain ⟨n,s1,h1,h2,h3,h4⟩:=hs.new (by omega);have hlen:(v.drop (j * 227)).length=v.length - j * 227:=List.length_drop;have hpl:((v.drop (j * 227)).take 227).length=min 227 (v.length - j * 227):=by rw [List.length_take,hlen]
   obtain ⟨h5,h6⟩:=h3.put (p:=n) Bt (d:=fb ((v.drop (j * 227)).take 227) next) (us (by rw [hpl];omega)) (fun _=>jD v j n);have hrg:=h3.rng (p:=n) Bt;have hv0':j * 227<v.length:=by simpa using hv0
   have hk:Lk (eN s1 n (fb ((v.drop (j * 227)).take 227) next)).B (v.length - j * 227) n (v.drop (j * 227)) (n :: ps):=by
    have e:v.drop (j * 227)=(v.drop (j * 227)).take 227 ++ v.drop ((j+1) * 227):=by rw [show (j+1) * 227=j * 227+227 by omega,<- List.drop_drop,List.take_append_drop]
    have hl':Lk (eN s1 n (fb ((v.drop (j * 227)).take 227) next)).B (v.length - j * 227 - 227) next (v.drop ((j+1) * 227)) ps:=by
     rw [show v.length - j * 227 - 227=v.length - (j+1) * 227 by omega];refine hl.congr fun q hq=>?_
     rw [show (eN s1 n (fb ((v.drop (j * 227)).take 227) next)).B q=s1.B q from aZ _ _ (fun e=>h2 (by rw [<- e];exact Bw _ hq))];exact h4.b q (Bw _ hq)
    have:=Lk.cons (p:=n) (by omega) (by rw [qh];exact sj hn.1 hn.2 hpl (by rw [hz];omega)) hl';rw [<- e] at this;exact this
   obtain ⟨s',p,ps',r1,r2,r3,r4,r5,r6,r7⟩:=tx hv j _ n (n :: ps) (by omega) h6 (by simp only [Bv,BB] at *;omega) (by omega) hk (by omega) (by omega);refine ⟨s',p,ps',?_,r2,?_,r4,r5,r6,fun _=>?_⟩
   ·rw [jD,h1,h5];exact r1
   ·refine Kp.trans ((h4.sub fun q hq=>Bx _ hq).trans (gN fun hx=>h2 (Bx _ hx))) r3
   ·rcases Nat.eq_zero_or_pos j with h | h
    ·subst h;simp only [jD,Pro.run,Prod.mk.injEq,Ans.ok.injEq] at r1;omega
    ·exact r7 h
def chn (v:By):Nat:=if v.length<=40 then 0 else (v.length+226) / 227
theorem nu {v:By} (hv:v.length<=5000) {X:List Int} {s:Sf} (hs:Hp s X) (hc:X.length+23<=4095):
  ∃ s' c ps,(cy v).run s=(s',.ok c)/\Hp s' (ps ++ X)/\Kp X s s'/\Cel s'.B c v ps/\ps.length=chn v/\(gR c).length<=42:=by
 unfold cy;rw [if_neg (by omega)];by_cases h:v.length<=40
 ·rw [if_pos h];refine ⟨s,⟨v.length,v,0⟩,[],rfl,hs,Kp.refl _ _,⟨?_,?_⟩,by simp [chn,h],?_⟩
  ·unfold aI;rw [if_neg (by simp only;omega),if_pos (by simp only;omega)];simp
  ·rw [if_pos (by simp only;omega)];exact ⟨rfl,rfl⟩
  ·unfold gR;rw [if_neg (by simp only;omega),Bv,dC];simp only
   split <;> omega
 ·rw [if_neg h]
  obtain ⟨s',p,ps,r1,r2,r3,r4,r5,r6,r7⟩:=tx hv (X:=X) ((v.length - 1) / 227+1) s 0 [] (by omega) hs (by simp;omega) (by simp;omega)
   (by rw [show v.length - ((v.length - 1) / 227+1) * 227=0 by omega,BC (by omega)];exact .nil) (by omega) (by constructor <;> intro <;> omega)
  have hp:=r7 (by omega);refine ⟨s',⟨v.length,[],p⟩,ps,ah r1,r2,r3,⟨?_,?_⟩,by rw [r4.len];simp [chn,h],?_⟩
  ·unfold aI;rw [if_neg (by simp only;omega),if_neg (by simp only;omega)];simp [cI];omega
  ·rw [if_neg (by simp only;omega)];exact r4
  ·unfold gR;rw [if_pos (by simp only;omega),Bv,dC,aF];simp only
   split <;> omega
theorem Cel.len {B:Int->By} {c:Ce} {v:By} {ps:List Int} (h:Cel B c v ps):ps.length<=23:=by
 obtain ⟨hg,h⟩:=h
 split at h
 ·rw [h.2];simp
 ·rename_i hc
  obtain ⟨_,_,_,h4⟩:=fw hg (by omega);rw [h.len];omega
theorem oL {X:List Int}:∀ (ps:List Int) (s:Sf),Hp s (ps ++ X)->∃ s',(eT ps).run s=(s',.ok ())/\Hp s' X/\Kp X s s'
 | [],s,hs=>⟨s,rfl,hs,Kp.refl _ _⟩
 | p :: ps,s,hs=>by
   obtain ⟨s1,h1,h2,h3⟩:=Hp.free (n:=p) (U:=ps ++ X) hs;obtain ⟨s',r1,r2,r3⟩:=oL ps s1 h2;exact ⟨s',by rw [eT,h1];exact r1,r2,(h3.sub fun q hq=>Bx _ hq).trans r3⟩
theorem oR {X:List Int} {s:Sf} {c:Ce} {v:By} {ps:List Int} (hs:Hp s (ps ++ X)) (h:Cel s.B c v ps):∃ s',(cM c).run s=(s',.ok ())/\Hp s' X/\Kp X s s':=by obtain ⟨s',r1,r2,r3⟩:=oL ps s hs;refine ⟨s',?_,r2,r3⟩;unfold cM;rw [ah (h.run hs fun q hq=>Bw _ hq)];exact r1
end Go.Proofs.YtknioodagnjchaaGreatDoor
namespace Go.Proofs.YtknioodagnjchaaGreatDoor
open List renaming mem_cons_self->Bt,mem_cons_of_mem->Bv,mem_append_right->Bw,not_mem_nil->Bx,mem_append_left->Bz,append_assoc->BA,mem_map_of_mem->BB
abbrev Pr:=By × By
def wD (lo:By) (hi:Option By) (k:By):Prop:=bM k lo=false/\∀ h,hi=some h->bM k h=true
def zo (ps:List Pr):Prop:=ps.Pairwise fun a b=>bM a.1 b.1=true
def cY (B:Int->By):List By->List Ce->List Pr->List Int->Prop
 | [],[],ps,gs=>ps=[]/\gs=[]
 | k :: ks,c :: cs,ps,gs=>∃ v g1 p2 g2,ps=(k,v) :: p2/\gs=g1 ++ g2/\Cel B c v g1/\cY B ks cs p2 g2
 | _,_,_,_=>False
abbrev TP:=Int->By->Option By->List Pr->List Int->Prop
def cO (T:TP):By->List By->Option By->List Int->List Pr->List Int->Prop
 | lo,[],hi,[d],ps,gs=>T d lo hi ps gs
 | lo,k :: ks,hi,d :: ds,ps,gs=>∃ p1 p2 g1 g2,ps=p1 ++ p2/\gs=g1 ++ g2/\T d lo (some k) p1 g1/\cO T k ks hi ds p2 g2
 | _,_,_,_,_,_=>False
def aU (B:Int->By):Nat->Nd->By->Option By->List Pr->List Int->Prop
 | 0,n,lo,hi,ps,gs=>n.leaf=true/\n.kids=[]/\aH n.keys=true/\(∀ k ∈ n.keys,wD lo hi k)/\cY B n.keys n.cells ps gs
 | d+1,n,lo,hi,ps,gs=>n.leaf=false/\n.cells=[]/\(∀ k ∈ n.keys,k.length<=64)/\
   cO (fun p lo hi ps gs=>ps≠[]/\∃ m g,dO (B p)=some m/\gs=p :: g/\aU B d m lo hi ps g) lo n.keys hi n.kids ps gs
def iD (B:Int->By) (d:Nat):TP:=fun p lo hi ps gs=>ps≠[]/\∃ m g,dO (B p)=some m/\gs=p :: g/\aU B d m lo hi ps g
theorem node_succ {B:Int->By} {d:Nat} {n:Nd} {lo:By} {hi:Option By} {ps:List Pr} {gs:List Int}:
  aU B (d+1) n lo hi ps gs↔n.leaf=false/\n.cells=[]/\(∀ k ∈ n.keys,k.length<=64)/\cO (iD B d) lo n.keys hi n.kids ps gs:=Iff.rfl
def Tr (B:Int->By) (d:Nat) (p:Int) (ps:List Pr) (gs:List Int):Prop:=∃ m g,dO (B p)=some m/\gs=p :: g/\aU B d m [] none ps g
def nU (T:TP):By->List By->List Int->By->List Pr->List Int->Prop
 | lo,[],[],lo',ps,gs=>lo'=lo/\ps=[]/\gs=[]
 | lo,k :: ks,d :: ds,lo',ps,gs=>∃ p1 p2 g1 g2,ps=p1 ++ p2/\gs=g1 ++ g2/\T d lo (some k) p1 g1/\nU T k ks ds lo' p2 g2
 | _,_,_,_,_,_=>False
def nM (T:TP) (hi':Option By):List By->Option By->List Int->List Pr->List Int->Prop
 | [],hi,[],ps,gs=>hi'=hi/\ps=[]/\gs=[]
 | k :: ks,hi,ds,ps,gs=>hi'=some k/\cO T k ks hi ds ps gs
 | _,_,_,_,_=>False
section
variable {T T':TP}
theorem eQ:∀ {ks:List By} {ds:List Int} {lo:By} {hi:Option By} {ps:List Pr} {gs:List Int},cO T lo ks hi ds ps gs->ds.length=ks.length+1
 | [],[],_,_,_,_,h=>h.elim
 | [],[d],_,_,_,_,_=>rfl
 | [],_ :: _ :: _,_,_,_,_,h=>h.elim
 | k :: ks,[],_,_,_,_,h=>h.elim
 | k :: ks,d :: ds,_,_,_,_,h=>by
   obtain ⟨p1,p2,g1,g2,_,_,_,h⟩:=h;have:=eQ h;simp [this]
theorem gz:∀ {i:Nat} {ks:List By} {ds:List Int} {lo:By} {hi:Option By} {ps:List Pr} {gs:List Int},cO T lo ks hi ds ps gs->i<ds.length->
  ∃ lo' hi' p1 p2 p3 g1 g2 g3,nU T lo (ks.take i) (ds.take i) lo' p1 g1/\T (ds.getD i 0) lo' hi' p2 g2/\nM T hi' (ks.drop i) hi (ds.drop (i+1)) p3 g3/\ps=p1 ++ (p2 ++ p3)/\gs=g1 ++ (g2 ++ g3)
 | _,[],[],_,_,_,_,h,_=>h.elim
 | 0,[],[d],lo,hi,ps,gs,h,_=>⟨lo,hi,[],ps,[],[],gs,[],⟨rfl,rfl,rfl⟩,h,⟨rfl,rfl,rfl⟩,by simp,by simp⟩
 | i+1,[],[d],_,_,_,_,_,hi=>by simp at hi
 | _,[],_ :: _ :: _,_,_,_,_,h,_=>h.elim
 | _,k :: ks,[],_,_,_,_,h,_=>h.elim
 | 0,k :: ks,d :: ds,lo,hi,ps,gs,h,_=>by
   obtain ⟨p1,p2,g1,g2,hp,hg,h1,h2⟩:=h;exact ⟨lo,some k,[],p1,p2,[],g1,g2,⟨rfl,rfl,rfl⟩,h1,⟨rfl,h2⟩,by simp [hp],by simp [hg]⟩
 | i+1,k :: ks,d :: ds,lo,hi,ps,gs,h,hi'=>by
   obtain ⟨p1,p2,g1,g2,rfl,rfl,h1,h2⟩:=h;obtain ⟨lo',hi',q1,q2,q3,r1,r2,r3,e1,e2,e3,rfl,rfl⟩:=gz (i:=i) h2 (by simpa using hi');exact ⟨lo',hi',p1 ++ q1,q2,q3,g1 ++ r1,r2,r3,⟨p1,q1,g1,r1,rfl,rfl,h1,e1⟩,e2,e3,by simp,by simp⟩
theorem fZ:∀ {a:List By} {c:List Int} {b:List By} {e:List Int} {d:Int} {lo lo':By} {hi hi':Option By} {p1 p2 p3:List Pr} {g1 g2 g3:List Int},
  nU T lo a c lo' p1 g1->T d lo' hi' p2 g2->nM T hi' b hi e p3 g3->cO T lo (a ++ b) hi (c ++ d :: e) (p1 ++ (p2 ++ p3)) (g1 ++ (g2 ++ g3))
 | [],[],[],[],_,_,_,_,_,_,_,_,_,_,_,h1,h2,h3=>by
   obtain ⟨rfl,rfl,rfl⟩:=h1;obtain ⟨rfl,rfl,rfl⟩:=h3;simp only [List.nil_append,List.append_nil];exact h2
 | [],[],[],_ :: _,_,_,_,_,_,_,_,_,_,_,_,_,_,h=>h.elim
 | [],[],k :: ks,e,_,_,_,_,_,_,_,_,_,_,_,h1,h2,h3=>by
   obtain ⟨rfl,rfl,rfl⟩:=h1;obtain ⟨rfl,h3⟩:=h3;exact ⟨_,_,_,_,by simp,by simp,h2,h3⟩
 | [],_ :: _,_,_,_,_,_,_,_,_,_,_,_,_,_,h,_,_=>h.elim
 | _ :: _,[],_,_,_,_,_,_,_,_,_,_,_,_,_,h,_,_=>h.elim
 | k :: ks,x :: c,b,e,d,lo,lo',hi,hi',_,_,_,_,_,_,h,h2,h3=>by
   obtain ⟨q1,q2,r1,r2,rfl,rfl,h1,h4⟩:=h;exact ⟨q1,_,r1,_,by simp only [BA],by simp only [BA],h1,fZ h4 h2 h3⟩
theorem pF:∀ {a:List By} {c:List Int} {lo lo':By} {p:List Pr} {g:List Int},nU T lo a c lo' p g->c.length=a.length
 | [],[],_,_,_,_,_=>rfl
 | [],_ :: _,_,_,_,_,h=>h.elim
 | _ :: _,[],_,_,_,_,h=>h.elim
 | k :: ks,d :: ds,_,_,_,_,h=>by
   obtain ⟨_,_,_,_,_,_,_,h⟩:=h;simp [pF h]
theorem mJ:∀ {a:List By} {c:List Int} {lo lo' k:By} {d:Int} {p:List Pr} {g:List Int},c.length=a.length->nU T lo (a ++ [k]) (c ++ [d]) lo' p g->
  ∃ l p1 p2 g1 g2,lo'=k/\p=p1 ++ p2/\g=g1 ++ g2/\nU T lo a c l p1 g1/\T d l (some k) p2 g2
 | [],[],lo,lo',k,d,_,_,_,h=>by
   obtain ⟨p1,p2,g1,g2,rfl,rfl,h1,h2⟩:=h;obtain ⟨rfl,rfl,rfl⟩:=h2;exact ⟨lo,[],p1,[],g1,rfl,by simp,by simp,⟨rfl,rfl,rfl⟩,h1⟩
 | [],_ :: _,_,_,_,_,_,_,h,_=>by simp at h
 | _ :: _,[],_,_,_,_,_,_,h,_=>by simp at h
 | k' :: ks,x :: c,lo,lo',k,d,_,_,hl,h=>by
   obtain ⟨q1,q2,r1,r2,rfl,rfl,h1,h4⟩:=h;obtain ⟨l,p1,p2,g1,g2,rfl,rfl,rfl,h5,h6⟩:=mJ (by simpa using hl) h4;exact ⟨l,q1 ++ p1,p2,r1 ++ g1,g2,rfl,by simp,by simp,⟨q1,p1,r1,g1,rfl,rfl,h1,h5⟩,h6⟩
theorem vF {b:List By} {e:List Int} {k:By} {d:Int} {hi hi':Option By} {p2 p3:List Pr} {g2 g3:List Int} (h:T d k hi' p2 g2) (h3:nM T hi' b hi e p3 g3):nM T (some k) (k :: b) hi (d :: e) (p2 ++ p3) (g2 ++ g3):=
 ⟨rfl,by simpa using fZ (a:=[]) (c:=[]) (lo:=k) (p1:=[]) (g1:=[]) ⟨rfl,rfl,rfl⟩ h h3⟩
theorem rO {b:List By} {e:List Int} {k:By} {d:Int} {hi hi':Option By} {p:List Pr} {g:List Int} (h:nM T hi' (k :: b) hi (d :: e) p g):∃ h2 p2 p3 g2 g3,hi'=some k/\p=p2 ++ p3/\g=g2 ++ g3/\T d k h2 p2 g2/\nM T h2 b hi e p3 g3:=by obtain ⟨rfl,h⟩:=h;obtain ⟨lo',hi',p1,p2,p3,g1,g2,g3,h1,h2,h3,rfl,rfl⟩:=gz (i:=0) h (by simp);obtain ⟨rfl,rfl,rfl⟩:=h1;exact ⟨hi',p2,p3,g2,g3,rfl,rfl,rfl,h2,h3⟩
theorem xw {b:List By} {e:List Int} {hi hi':Option By} {p:List Pr} {g:List Int} (h:nM T hi' b hi e p g):e.length=b.length:=by
 cases b with
 | nil=>cases e with
   | nil=>rfl
   | cons=>exact h.elim
 | cons k b=>have:=eQ h.2;simp [this]
theorem lm:∀ {ks:List By} {ds:List Int} {lo:By} {hi:Option By} {ps:List Pr} {gs:List Int},(∀ d lo hi ps g,(∀ q ∈ g,q ∈ gs)->T d lo hi ps g->T' d lo hi ps g)->cO T lo ks hi ds ps gs->cO T' lo ks hi ds ps gs
 | [],[],_,_,_,_,_,h=>h.elim
 | [],[d],_,_,_,_,hm,h=>hm _ _ _ _ _ (fun _ h=>h) h
 | [],_ :: _ :: _,_,_,_,_,_,h=>h.elim
 | k :: ks,[],_,_,_,_,_,h=>h.elim
 | k :: ks,d :: ds,_,_,_,_,hm,h=>by
   obtain ⟨p1,p2,g1,g2,rfl,rfl,h1,h2⟩:=h;exact ⟨p1,p2,g1,g2,rfl,rfl,hm _ _ _ _ _ (fun q hq=>Bz _ hq) h1,lm (fun d lo hi ps g hg=>hm d lo hi ps g fun q hq=>Bw _ (hg q hq)) h2⟩
theorem qC:∀ {ks:List By} {ds:List Int} {lo lo':By} {ps:List Pr} {gs:List Int},(∀ d lo hi ps g,(∀ q ∈ g,q ∈ gs)->T d lo hi ps g->T' d lo hi ps g)->nU T lo ks ds lo' ps gs->nU T' lo ks ds lo' ps gs
 | [],[],_,_,_,_,_,h=>h
 | [],_ :: _,_,_,_,_,_,h=>h.elim
 | _ :: _,[],_,_,_,_,_,h=>h.elim
 | k :: ks,d :: ds,_,_,_,_,hm,h=>by
   obtain ⟨p1,p2,g1,g2,rfl,rfl,h1,h2⟩:=h;exact ⟨p1,p2,g1,g2,rfl,rfl,hm _ _ _ _ _ (fun q hq=>Bz _ hq) h1,qC (fun d lo hi ps g hg=>hm d lo hi ps g fun q hq=>Bw _ (hg q hq)) h2⟩
theorem vD {b:List By} {e:List Int} {hi hi':Option By} {p:List Pr} {g:List Int} (hm:∀ d lo hi ps g',(∀ q ∈ g',q ∈ g)->T d lo hi ps g'->T' d lo hi ps g') (h:nM T hi' b hi e p g):nM T' hi' b hi e p g:=by
 cases b with
 | nil=>cases e with
   | nil=>exact h
   | cons=>exact h.elim
 | cons k b=>exact ⟨h.1,lm hm h.2⟩
theorem lu {lo k x:By} {hi:Option By} (h1:bM k lo=false) (h:wD k hi x):wD lo hi x:=⟨oI h1 h.1,h.2⟩
structure Fine (T:TP):Prop where
 ne:∀ {d lo hi ps gs},T d lo hi ps gs->ps≠[]
 inb:∀ {d lo hi ps gs},T d lo hi ps gs->∀ p ∈ ps,wD lo hi p.1
 srt:∀ {d lo hi ps gs},T d lo hi ps gs->zo ps
 len:∀ {d lo hi ps gs},T d lo hi ps gs->∀ p ∈ ps,p.1.length<=64
theorem fp (hT:Fine T):∀ {ks:List By} {ds:List Int} {lo:By} {hi:Option By} {ps:List Pr} {gs:List Int},cO T lo ks hi ds ps gs->
  ps≠[]/\(∀ p ∈ ps,wD lo hi p.1)/\zo ps/\(∀ p ∈ ps,p.1.length<=64)/\(∀ k ∈ ks,bM lo k=true/\∀ h,hi=some h->bM k h=true)/\ks.Pairwise (fun a b=>bM a b=true)
 | [],[],_,_,_,_,h=>h.elim
 | [],[d],_,_,_,_,h=>⟨hT.ne h,hT.inb h,hT.srt h,hT.len h,fun _ hk=>absurd hk Bx,List.Pairwise.nil⟩
 | [],_ :: _ :: _,_,_,_,_,h=>h.elim
 | k :: ks,[],_,_,_,_,h=>h.elim
 | k :: ks,d :: ds,lo,hi,_,_,h=>by
   obtain ⟨p1,p2,g1,g2,rfl,rfl,h1,h2⟩:=h;obtain ⟨i1,i2,i3,i4,i5,i6⟩:=fp hT h2;have j1:=hT.ne h1;have j2:=hT.inb h1;have j3:=hT.srt h1;have hlk:bM lo k=true:=by
    cases p1 with
    | nil=>exact absurd rfl j1
    | cons x xs=> have:=j2 x Bt;exact fj (this.1) (this.2 k rfl)
   have hkl:bM k lo=false:=aL hlk;have hkh:∀ h,hi=some h->bM k h=true:=by
    cases p2 with
    | nil=>exact absurd rfl i1
    | cons x xs=> have:=i2 x Bt;exact fun h e=>fj this.1 (this.2 h e)
   refine ⟨by simp [j1],fun p hp=>?_,?_,fun p hp=>?_,fun x hx=>?_,?_⟩
   ·rcases List.mem_append.1 hp with hp | hp
    ·exact ⟨(j2 p hp).1,fun h e=>cS ((j2 p hp).2 k rfl) (hkh h e)⟩
    ·exact lu hkl (i2 p hp)
   ·refine List.pairwise_append.2 ⟨j3,i3,fun a ha b hb=>?_⟩;exact fi ((j2 a ha).2 k rfl) (i2 b hb).1
   ·rcases List.mem_append.1 hp with hp | hp
    ·exact hT.len h1 p hp
    ·exact i4 p hp
   ·rcases List.mem_cons.1 hx with rfl | hx
    ·exact ⟨hlk,hkh⟩
    ·exact ⟨cS hlk (i5 x hx).1,(i5 x hx).2⟩
   ·exact List.pairwise_cons.2 ⟨fun x hx=>(i5 x hx).1,i6⟩
theorem qD (hT:Fine T):∀ {ks:List By} {ds:List Int} {lo lo':By} {ps:List Pr} {gs:List Int},nU T lo ks ds lo' ps gs->
  (∀ p ∈ ps,wD lo (some lo') p.1)/\bM lo' lo=false/\(lo'=lo\/lo' ∈ ks)
 | [],[],_,_,_,_,⟨rfl,rfl,rfl⟩=>⟨fun _ h=>absurd h Bx,eG _,.inl rfl⟩
 | [],_ :: _,_,_,_,_,h=>h.elim
 | _ :: _,[],_,_,_,_,h=>h.elim
 | k :: ks,d :: ds,lo,lo',_,_,h=>by
   obtain ⟨p1,p2,g1,g2,rfl,rfl,h1,h2⟩:=h;obtain ⟨i1,i2,i3⟩:=qD hT h2;have j1:=hT.ne h1;have j2:=hT.inb h1;have hlk:bM lo k=true:=by
    cases p1 with
    | nil=>exact absurd rfl j1
    | cons x xs=> have:=j2 x Bt;exact fj (this.1) (this.2 k rfl)
   refine ⟨fun p hp=>?_,oI (aL hlk) i2,.inr ?_⟩
   ·rcases List.mem_append.1 hp with hp | hp
    ·exact ⟨(j2 p hp).1,fun h e=>by injection e with e;subst e;exact fi ((j2 p hp).2 k rfl) i2⟩
    ·exact lu (aL hlk) (i1 p hp)
   ·rcases i3 with rfl | i3
    ·exact Bt
    ·exact Bv _ i3
theorem vE (hT:Fine T) {b:List By} {e:List Int} {hi hi':Option By} {p:List Pr} {g:List Int} (h:nM T hi' b hi e p g):
  (∀ x ∈ p,∃ h,hi'=some h/\bM x.1 h=false)/\(∀ h,hi=some h->∃ h',hi'=some h'/\bM h h'=false)/\(hi'=hi\/∃ k ∈ b,hi'=some k):=by
 cases b with
 | nil=>cases e with
   | nil=>obtain ⟨rfl,rfl,rfl⟩:=h;exact ⟨fun _ h=>absurd h Bx,fun h e=>⟨h,e,eG _⟩,.inl rfl⟩
   | cons=>exact h.elim
 | cons k b=>
   obtain ⟨rfl,h⟩:=h;have:=fp hT h;refine ⟨fun x hx=>⟨k,rfl,(this.2.1 x hx).1⟩,fun h e=>⟨k,rfl,?_⟩,.inr ⟨k,Bt,rfl⟩⟩;obtain ⟨h1,h2,_⟩:=this;cases p with
   | nil=>exact absurd rfl h1
   | cons x xs=> have:=h2 x Bt;exact aL (fj this.1 (this.2 _ e))
end
theorem ej {B B':Int->By}:∀ {ks:List By} {cs:List Ce} {ps:List Pr} {gs:List Int},cY B ks cs ps gs->(∀ q ∈ gs,B' q=B q)->cY B' ks cs ps gs
 | [],[],_,_,h,_=>h
 | [],_ :: _,_,_,h,_=>h.elim
 | _ :: _,[],_,_,h,_=>h.elim
 | k :: ks,c :: cs,_,_,h,hb=>by
   obtain ⟨v,g1,p2,g2,rfl,rfl,h1,h2⟩:=h;exact ⟨v,g1,p2,g2,rfl,rfl,h1.congr fun q hq=>hb q (Bz _ hq),ej h2 fun q hq=>hb q (Bw _ hq)⟩
theorem bY {B:Int->By}:∀ {ks:List By} {cs:List Ce} {ps:List Pr} {gs:List Int},cY B ks cs ps gs->ks=ps.map (·.1)/\cs.length=ks.length/\∀ c ∈ cs,aI c=true
 | [],[],_,_,⟨rfl,rfl⟩=>⟨rfl,rfl,fun _ h=>absurd h Bx⟩
 | [],_ :: _,_,_,h=>h.elim
 | _ :: _,[],_,_,h=>h.elim
 | k :: ks,c :: cs,_,_,h=>by
   obtain ⟨v,g1,p2,g2,rfl,rfl,h1,h2⟩:=h;obtain ⟨i1,i2,i3⟩:=bY h2;refine ⟨by simp [<- i1],by simp [i2],fun x hx=>?_⟩;rcases List.mem_cons.1 hx with rfl | hx
   ·exact h1.1
   ·exact i3 x hx
theorem iB {B:Int->By}:∀ (i:Nat) {ks:List By} {cs:List Ce} {ps:List Pr} {gs:List Int},cY B ks cs ps gs->
  ∃ p1 p2 g1 g2,ps=p1 ++ p2/\gs=g1 ++ g2/\cY B (ks.take i) (cs.take i) p1 g1/\cY B (ks.drop i) (cs.drop i) p2 g2
 | 0,ks,cs,ps,gs,h=>⟨[],ps,[],gs,rfl,rfl,⟨rfl,rfl⟩,h⟩
 | i+1,[],[],_,_,⟨rfl,rfl⟩=>⟨[],[],[],[],rfl,rfl,⟨rfl,rfl⟩,⟨rfl,rfl⟩⟩
 | i+1,[],_ :: _,_,_,h=>h.elim
 | i+1,_ :: _,[],_,_,h=>h.elim
 | i+1,k :: ks,c :: cs,_,_,h=>by
   obtain ⟨v,g1,p2,g2,rfl,rfl,h1,h2⟩:=h;obtain ⟨q1,q2,r1,r2,rfl,rfl,h3,h4⟩:=iB i h2;exact ⟨(k,v) :: q1,q2,g1 ++ r1,r2,rfl,by simp,⟨v,g1,q1,r1,rfl,rfl,h1,h3⟩,h4⟩
theorem ib {B:Int->By}:∀ {k1 k2:List By} {c1 c2:List Ce} {p1 p2:List Pr} {g1 g2:List Int},cY B k1 c1 p1 g1->cY B k2 c2 p2 g2->cY B (k1 ++ k2) (c1 ++ c2) (p1 ++ p2) (g1 ++ g2)
 | [],_,[],_,_,_,_,_,⟨rfl,rfl⟩,h=>h
 | [],_,_ :: _,_,_,_,_,_,h,_=>h.elim
 | _ :: _,_,[],_,_,_,_,_,h,_=>h.elim
 | k :: ks,_,c :: cs,_,_,_,_,_,h,h2=>by
   obtain ⟨v,g1,p2,g2,rfl,rfl,h1,h3⟩:=h;exact ⟨v,g1,_,_,rfl,by simp only [BA],h1,ib h3 h2⟩
theorem rises_pw:∀ {l:List By},aH l=true↔(∀ k ∈ l,k.length<=64)/\l.Pairwise (fun a b=>bM a b=true)
 | []=>by simp [aH]
 | [a]=>by simp [aH]
 | a :: b :: r=>by
   rw [aH,Bool.and_eq_true,Bool.and_eq_true,decide_eq_true_eq,rises_pw];constructor
   ·rintro ⟨⟨h1,h2⟩,h3,h4⟩;refine ⟨fun k hk=>?_,List.pairwise_cons.2 ⟨fun k hk=>?_,h4⟩⟩
    ·rcases List.mem_cons.1 hk with rfl | hk
     ·exact h1
     ·exact h3 k hk
    ·rcases List.mem_cons.1 hk with rfl | hk
     ·exact h2
     ·exact cS h2 ((List.pairwise_cons.1 h4).1 k hk)
   ·rintro ⟨h1,h2⟩;have:=List.pairwise_cons.1 h2;exact ⟨⟨h1 a Bt,this.1 b Bt⟩,fun k hk=>h1 k (Bv _ hk),this.2⟩
theorem dr (B:Int->By):∀ (d:Nat) {n:Nd} {lo:By} {hi:Option By} {ps:List Pr} {gs:List Int},aU B d n lo hi ps gs->
  (∀ p ∈ ps,wD lo hi p.1)/\zo ps/\(∀ p ∈ ps,p.1.length<=64)/\aH n.keys=true
 | 0,n,lo,hi,ps,gs,h=>by
   obtain ⟨h1,h2,h3,h4,h5⟩:=h;obtain ⟨e,_⟩:=bY h5;have hr:=rises_pw.1 h3;refine ⟨fun p hp=>h4 _ (by rw [e];exact BB hp),?_,fun p hp=>hr.1 _ (by rw [e];exact BB hp),h3⟩;rw [e] at hr;exact List.pairwise_map.1 hr.2
 | d+1,n,lo,hi,ps,gs,h=>by
   obtain ⟨h1,h2,h3,h4⟩:=node_succ.1 h;have hT:Fine (iD B d):=⟨fun h=>h.1,fun h=>let ⟨_,_,_,_,_,h⟩:=h;(dr B d h).1,fun h=>let ⟨_,_,_,_,_,h⟩:=h;(dr B d h).2.1,fun h=>let ⟨_,_,_,_,_,h⟩:=h;(dr B d h).2.2.1⟩;obtain ⟨i1,i2,i3,i4,i5,i6⟩:=fp hT h4;exact ⟨i2,i3,i4,rises_pw.2 ⟨h3,i6⟩⟩
theorem gp (B:Int->By) (d:Nat):Fine (iD B d):=⟨fun h=>h.1,fun h=>let ⟨_,_,_,_,_,h⟩:=h;(dr B d h).1,fun h=>let ⟨_,_,_,_,_,h⟩:=h;(dr B d h).2.1,fun h=>let ⟨_,_,_,_,_,h⟩:=h;(dr B d h).2.2.1⟩
theorem bV {B B':Int->By}:∀ (d:Nat) {n:Nd} {lo:By} {hi:Option By} {ps:List Pr} {gs:List Int},aU B d n lo hi ps gs->(∀ q ∈ gs,B' q=B q)->aU B' d n lo hi ps gs
 | 0,n,lo,hi,ps,gs,h,hb=>by
   obtain ⟨h1,h2,h3,h4,h5⟩:=h;exact ⟨h1,h2,h3,h4,ej h5 hb⟩
 | d+1,n,lo,hi,ps,gs,h,hb=>by
   obtain ⟨h1,h2,h3,h4⟩:=node_succ.1 h;refine node_succ.2 ⟨h1,h2,h3,lm (fun p lo hi ps g hg hs=>?_) h4⟩;obtain ⟨hs0,m,g',hs1,rfl,hs2⟩:=hs;exact ⟨hs0,m,g',by rw [hb p (hg p Bt)];exact hs1,rfl,bV d hs2 fun q hq=>hb q (hg q (Bv _ hq))⟩
theorem js {B B':Int->By} {d:Nat} {p:Int} {lo:By} {hi:Option By} {ps:List Pr} {gs:List Int} (h:iD B d p lo hi ps gs) (hb:∀ q ∈ gs,B' q=B q):iD B' d p lo hi ps gs:=by obtain ⟨hs0,m,g',hs1,rfl,hs2⟩:=h;exact ⟨hs0,m,g',by rw [hb p Bt];exact hs1,rfl,bV d hs2 fun q hq=>hb q (Bv _ hq)⟩
theorem tD {B:Int->By} {d:Nat}:∀ {ks:List By} {ds:List Int} {lo:By} {hi:Option By} {ps:List Pr} {gs:List Int},cO (iD B d) lo ks hi ds ps gs->ds.Sublist gs
 | [],[],_,_,_,_,h=>h.elim
 | [],[x],_,_,_,_,h=>by
   obtain ⟨_,m,g,_,rfl,_⟩:=h;exact List.Sublist.cons_cons _ (List.nil_sublist _)
 | [],_ :: _ :: _,_,_,_,_,h=>h.elim
 | k :: ks,[],_,_,_,_,h=>h.elim
 | k :: ks,x :: ds,_,_,_,_,h=>by
   obtain ⟨p1,p2,g1,g2,rfl,rfl,h1,h2⟩:=h;obtain ⟨_,m,g,_,rfl,_⟩:=h1;exact List.Sublist.cons_cons _ ((tD h2).trans (List.sublist_append_right _ _))
theorem fY {B:Int->By} {d:Nat} {n:Nd} {lo:By} {hi:Option By} {ps:List Pr} {gs:List Int} (h:aU B d n lo hi ps gs) (hn:gs.Nodup) (hp:∀ q ∈ gs,cI q=true) (hk:d≠0->n.keys≠[]):aD n=true:=by
 obtain ⟨_,_,_,hr⟩:=dr B d h;obtain ⟨nl,nk,nc,nd⟩:=n;cases d with
 | zero=> obtain ⟨h1,h2,h3,h4,h5⟩:=h;simp only at h1 h2;subst h1 h2;obtain ⟨_,e,hc⟩:=bY h5;exact gP hr e hc
 | succ d=> obtain ⟨h1,h2,h3,h4⟩:=node_succ.1 h;simp only at h1 h2;subst h1 h2;have hs:=tD h4;exact eS hr (hk (by omega)) (eQ h4) (hn.sublist hs) fun q hq=>hp q (hs.subset hq)
end Go.Proofs.YtknioodagnjchaaGreatDoor
