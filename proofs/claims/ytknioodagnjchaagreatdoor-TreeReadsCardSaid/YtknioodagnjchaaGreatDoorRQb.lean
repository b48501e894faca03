/- The reference's decoder of nodes reads by places; it is the program's; plain. cahierref08: number, part, fixed. cahierref08: Decode. cahierref08: Decode, walked. -/
import Derived.Test.YtknioodagnjchaaGreatDoorRTDec2
import Derived.Test.YtknioodagnjchaaGreatDoorRQa
import Derived.Deep.Cut
import Derived.Deep.CutRange
set_option maxRecDepth 100000
set_option maxHeartbeats 16000000
namespace Go.Proofs.YtknioodagnjchaaGreatDoor
def dQ:Option Nat→Int
 | none=>-1
 | some a=>a
def cq (l:By):Option Nat→Nat × Option Nat
 | none=>(0,none)
 | some a=>if l.length<a then (0,none) else if (fU (l.drop a)).2.2≠0∨5000<(fU (l.drop a)).1 then (0,none) else ((fU (l.drop a)).1,some (a+(fU (l.drop a)).2.1))
def bJ (l:By):Option Nat→Nat→By × Option Nat
 | none,_=>([],none)
 | some a,n=>if l.length<a+n then ([],none) else ((l.drop a).take n,some (a+n))
def ep (l:By) (p:Option Nat):Nat × Option Nat:=((bJ l p 4).2.elim 0 fun _=>bM (bJ l p 4).1,(bJ l p 4).2)
def iV (l:By) (p:Option Nat):By × Option Nat:=bJ l (cq l p).2 (cq l p).1
def eq (l:By) (p:Option Nat):Ce × Option Nat:=
 if 40<(cq l p).1 then (⟨(cq l p).1,[],(ep l (cq l p).2).1⟩,(ep l (cq l p).2).2)
 else (⟨(cq l p).1,(bJ l (cq l p).2 (cq l p).1).1,0⟩,(bJ l (cq l p).2 (cq l p).1).2)
def pH (l:By):Nat→Option Nat→Nd→Option (Option Nat × Nd)
 | 0,p,n=>some (p,n)
 | _+1,none,n=>some (none,n)
 | c+1,some a,n=>match (iV l (some a)).2 with
   | none=>none
   | some b=>if n.leaf then pH l c (eq l (some b)).2 { n with keys:=n.keys ++ [(iV l (some a)).1],cells:=n.cells ++ [(eq l (some b)).1] }
     else pH l c (ep l (some b)).2 { n with keys:=n.keys ++ [(iV l (some a)).1],kids:=n.kids ++ [((ep l (some b)).1:Int)] }
def bQ (l:By):Option Nat × Nd:=
 if l.getD 0 0=1 then (some 3,⟨true,[],[],[]⟩) else ((ep l (some 3)).2,⟨false,[],[],[((ep l (some 3)).1:Int)]⟩)
def lY (l:By):Option (Option Nat × Nd):=pH l (bM ((l.drop 1).take 2)) (bQ l).1 (bQ l).2
def qJ (l:By):Option Nd:=match lY l with
 | some (some _,n)=>if db n=0∧dD n=l then some n else none
 | _=>none
def pi (l:By) (p:Option Nat) (r:Rd):Prop:=match p with
 | none=>r.bad=true
 | some a=>a≤l.length∧r=⟨l.drop a,false⟩
theorem pa {l:By} {p:Option Nat} {r:Rd} (h:pi l p r):pi l (cq l p).2 (bn r).2∧((cq l p).2≠none→(bn r).1=(cq l p).1):=by
 cases p with
 | none=>
   refine ⟨?_,fun h=>absurd rfl h⟩;show (bn r).2.bad=true;cases hb:(bn r).2.bad
   ·have h:r.bad=true:=h;rw [((fI r).2 hb).1] at h;cases h
   ·rfl
 | some a=>
   obtain ⟨ha,rfl⟩:=h;unfold cq bn;simp only;rw [if_neg (by omega)]
   split
   ·exact ⟨rfl,fun h=>absurd rfl h⟩
   ·rename_i h0
    have h1:(fU (l.drop a)).2.2=0:=Decidable.of_not_not fun h=>h0 (.inl h)
    have h2:=jA h1;rw [List.length_drop] at h2;refine ⟨⟨by omega,?_⟩,fun _=>rfl⟩;simp only;rw [List.drop_drop]
theorem gG {l:By} {p:Option Nat} {r:Rd} (n:Nat) (h:pi l p r):pi l (bJ l p n).2 (cg r n).2∧((bJ l p n).2≠none→(cg r n).1=(bJ l p n).1):=by
 cases p with
 | none=>
   refine ⟨?_,fun h=>absurd rfl h⟩;show (cg r n).2.bad=true;cases hb:(cg r n).2.bad
   ·have h:r.bad=true:=h;rw [(dY r n).2.2 hb] at h;cases h
   ·rfl
 | some a=>
   obtain ⟨ha,rfl⟩:=h;unfold bJ cg;simp only [List.length_drop];by_cases h1:l.length<a+n
   ·rw [if_pos h1,if_pos (by omega)];exact ⟨rfl,fun h=>absurd rfl h⟩
   ·rw [if_neg h1,if_neg (by omega)];refine ⟨⟨by omega,?_⟩,fun _=>rfl⟩;simp only;rw [List.drop_drop]
theorem jK {l:By} {p:Option Nat} {r:Rd} (h:pi l p r):pi l (ep l p).2 (cO r).2∧((ep l p).2≠none→(cO r).1=(ep l p).1):=by
 obtain ⟨h1,h2⟩:=gG 4 h;refine ⟨h1,fun h3=>?_⟩;have h3:(bJ l p 4).2≠none:=h3;unfold ep cO;rw [h2 h3];cases hq:(bJ l p 4).2 with
 | none=>exact absurd hq h3
 | some b=>rfl
theorem sA {l:By} {p:Option Nat} {r:Rd} (h:pi l p r):pi l (iV l p).2 (dq r).2∧((iV l p).2≠none→(dq r).1=(iV l p).1):=by
 obtain ⟨h1,h2⟩:=pa h;unfold iV dq;cases hq:(cq l p).2 with
 | none=> rw [hq] at h1;exact ⟨(gG (l:=l) (p:=none) (bn r).1 h1).1,fun h=>absurd rfl h⟩
 | some b=> have h3:=h2 (by rw [hq];exact Option.some_ne_none _);rw [hq] at h1;rw [h3];exact gG _ h1
theorem rA {l:By} {p:Option Nat} {r:Rd} (h:pi l p r):pi l (eq l p).2 (dg r).2∧((eq l p).2≠none→(dg r).1=(eq l p).1):=by
 obtain ⟨h1,h2⟩:=pa h;unfold eq dg;cases hq:(cq l p).2 with
 | none=>
   rw [hq] at h1;have hn:(cq l p).1=0:=by
    cases p with
    | none=>rfl
    | some a=>
      unfold cq at hq ⊢;simp only at hq ⊢
      split
      ·rfl
      ·rename_i h3
       rw [if_neg h3] at hq
       split
       ·rfl
       ·rename_i h4
        rw [if_neg h4] at hq;cases hq
   rw [hn,if_neg (by decide)];refine ⟨?_,fun h=>absurd rfl h⟩
   split
   ·exact (jK (l:=l) (p:=none) h1).1
   ·exact (gG (l:=l) (p:=none) _ h1).1
 | some b=>
   have h3:=h2 (by rw [hq];exact Option.some_ne_none _);rw [hq] at h1;rw [h3];obtain ⟨f1,f2⟩:=jK h1;obtain ⟨p1,p2⟩:=gG (cq l p).1 h1
   split
   ·exact ⟨f1,fun hn=>by simp only [f2 hn]⟩
   ·exact ⟨p1,fun hn=>by simp only [p2 hn]⟩
theorem rO (l:By):∀ (c:Nat) (p:Option Nat) (n:Nd) (r:Rd),pi l p r→match pH l c p n with
  | none=>(iF c r n).1.bad=true
  | some (none,_)=>(iF c r n).1.bad=true
  | some (some a,n')=>iF c r n=(⟨l.drop a,false⟩,n')
 | 0,none,n,r,h=>h
 | 0,some a,n,r,h=>by
   obtain ⟨ha,rfl⟩:=h;rfl
 | c+1,none,n,r,h=>by
   have h:r.bad=true:=h;show (iF (c+1) r n).1.bad=true;unfold iF;rw [if_pos h];exact h
 | c+1,some a,n,r,h=>by
   obtain ⟨k1,k2⟩:=sA h;have hb:r.bad=false:=by rw [h.2]
   unfold pH iF;rw [if_neg (by rw [hb];simp)];cases hq:(iV l (some a)).2 with
   | none=>
     rw [hq] at k1;have k1:(dq r).2.bad=true:=k1
     have bad:∀ (c:Nat) (r:Rd) (n:Nd),r.bad=true→(iF c r n).1.bad=true:=fun c r n hr=>by
      cases c with
      | zero=>exact hr
      | succ c=>unfold iF;rw [if_pos hr];exact hr
     simp only
     split
     ·refine bad _ _ _ ?_;cases hx:(dg (dq r).2).2.bad
      ·rw [(jV _).2.2 hx] at k1;cases k1
      ·rfl
     ·refine bad _ _ _ ?_;cases hx:(cO (dq r).2).2.bad
      ·rw [(fJ _).2 hx] at k1;cases k1
      ·rfl
   | some b=>
     have k3:=k2 (by rw [hq];exact Option.some_ne_none _);rw [hq] at k1;rw [k3];simp only;obtain ⟨c1,c2⟩:=rA k1;obtain ⟨f1,f2⟩:=jK k1;by_cases hl:n.leaf=true
     ·rw [if_pos hl,if_pos hl];cases hx:(eq l (some b)).2 with
      | none=>
        rw [hx] at c1;have c1:(dg (dq r).2).2.bad=true:=c1;have g1:=rO l c none { n with keys:=n.keys ++ [(iV l (some a)).1],cells:=n.cells ++ [(eq l (some b)).1] } _ (show pi l none (dg (dq r).2).2 from c1)
        have g2:∀ m m':Nd,(iF c (dg (dq r).2).2 m).1.bad=true:=fun m _=>by
         cases c with
         | zero=>exact c1
         | succ c=>unfold iF;rw [if_pos c1];exact c1
        cases c with
        | zero=>exact g2 _ n
        | succ c=>exact g2 _ n
      | some d=> have c3:=c2 (by rw [hx];exact Option.some_ne_none _);rw [hx] at c1;rw [c3];exact rO l c (some d) _ _ c1
     ·rw [if_neg hl,if_neg hl];cases hx:(ep l (some b)).2 with
      | none=>
        rw [hx] at f1;have f1:(cO (dq r).2).2.bad=true:=f1
        have g2:∀ m m':Nd,(iF c (cO (dq r).2).2 m).1.bad=true:=fun m _=>by
         cases c with
         | zero=>exact f1
         | succ c=>unfold iF;rw [if_pos f1];exact f1
        cases c with
        | zero=>exact g2 _ n
        | succ c=>exact g2 _ n
      | some d=> have f3:=f2 (by rw [hx];exact Option.some_ne_none _);rw [hx] at f1;rw [f3];exact rO l c (some d) _ _ f1
theorem rP {l:By} (hl:l.length=232):qJ l=cN l:=by
 have hs:pi l (bQ l).1 (aS l).1∧(aS l).2=(bQ l).2:=by
  have h3:pi l (some 3) ⟨l.drop 3,false⟩:=⟨by omega,rfl⟩;obtain ⟨f1,f2⟩:=jK h3;unfold bQ aS
  split
  ·exact ⟨h3,rfl⟩
  ·refine ⟨f1,?_⟩;simp only;rw [f2 (by
    show (bJ l (some 3) 4).2≠none;unfold bJ;simp only;rw [if_neg (by omega)];exact Option.some_ne_none _)]
 have hg:=rO l (bM ((l.drop 1).take 2)) (bQ l).1 (bQ l).2 (aS l).1 hs.1;unfold qJ;have hd:=ou (l:=l) (rd:=(de l).1) (n:=(de l).2) rfl;rw [hd];unfold de;rw [hs.2];unfold lY;generalize pH l (bM ((l.drop 1).take 2)) (bQ l).1 (bQ l).2=x at *;generalize iF (bM ((l.drop 1).take 2)) (aS l).1 (bQ l).2=y at *;rcases x with _ | ⟨_ | a,n'⟩
 ·simp only at hg ⊢;rw [if_neg (by rw [hg];simp)]
 ·simp only at hg ⊢;rw [if_neg (by rw [hg];simp)]
 ·simp only at hg ⊢;rw [hg];simp
end Go.Proofs.YtknioodagnjchaaGreatDoor
namespace Go.Proofs.YtknioodagnjchaaGreatDoor
open Go.Lib (hid)
open Go.RowKit
def jY (x:Nat × Option Nat):Value:=.tuple #[.int .i64 x.1,.int .i64 (dQ x.2)]
def jX (x:By × Option Nat):Value:=.tuple #[.string (al x.1),.int .i64 (dQ x.2)]
theorem oF:∀ (l:List UInt8) (i n:Nat),(fG i n l).2.1≤i+l.length+1
 | [],i,n=>by simp [f9]
 | b :: r,i,n=>by
   by_cases h1:(i=9∧1<b.toNat)∨(0<i∧b.toNat=0)
   ·rw [ge h1];simp
   ·by_cases h2:b.toNat<128
    ·rw [eL h1 h2];simp
    ·rw [gL h1 h2];have:=oF r (i+1) (n+(b.toNat - 128) * 128 ^ i);simp only [List.length_cons];omega
theorem jp (l:By) (p:Option Nat) (w:World) (hl:l.length≤1000000):
  Calls Tryz.prog 114 #[.string (al l),.int .i64 (dQ p)] w fun e w'=>e=.returned (jY (cq l p))∧w=w':=by
 have hsz:((al l).size:Int)=(l.length:Int):=by rw [aq]
 have hsn:(al l).size=l.length:=aq l;go_enter Tryz.func114,Tryz.ntmps114;cases p with
 | none=> have HV:=hid (show cq l none=(0,none) from rfl);simp only [dQ];go_wp2_with fail;go_ret2;exact ⟨by rw [HV.out];rfl,rfl⟩
 | some a=>
   simp only [dQ];have h0:¬ ((a:Int)<0):=by omega
   have h0b:(0:Int)≤(a:Int):=by omega
   by_cases h1:l.length<a
   ·have HV:=hid (show cq l (some a)=(0,none) by unfold cq;simp only;rw [if_pos h1]);have h2:((al l).size:Int)<(a:Int):=by omega
    clear hsz hsn h1;go_wp2_with fail;go_ret2;exact ⟨by rw [HV.out];rfl,rfl⟩
   ·have HV0:=hid (show cq l (some a)=if (fU (l.drop a)).2.2≠0∨5000<(fU (l.drop a)).1 then (0,none) else ((fU (l.drop a)).1,some (a+(fU (l.drop a)).2.1)) by unfold cq;simp only;rw [if_neg h1]);have h2:(a:Int)≤((al l).size:Int):=by omega
    have HX:=hid (show (al l).extract a (al l).size=al (l.drop a) by rw [cR,aW,List.take_of_length_le (by rw [List.length_drop];omega)]);have hle:=oF (l.drop a) 0 0;have HLE:=hid (show (fU (l.drop a)).2.1≤1000001 from by
     have:(fU (l.drop a)).2.1≤0+(l.drop a).length+1:=hle;rw [List.length_drop] at this;omega)
    have ha:a≤1000000:=by omega
    clear hle h1 hsn;go_wp2_with fail
    try rw [HX.out]
    refine (nR (al (l.drop a)) w).mono ?_;rw [aW];rintro e w1 ⟨rfl,rfl⟩;obtain ⟨⟨n,k,c⟩,hu⟩:∃ x,fU (l.drop a)=x:=⟨_,rfl⟩;rw [hu] at HV0 HLE;rw [hu];clear hu;simp only at HV0 HLE;unfold tX;by_cases hc:c=0
    ·subst hc;by_cases hn:5000<n
     ·have HV:=hid (show cq l (some a)=(0,none) by rw [HV0.out,if_pos (.inr hn)]);have hn2:(5000:Int)<(n:Int):=by omega
      go_wp2_with fail;go_ret2;exact ⟨by rw [HV.out];rfl,rfl⟩
     ·have HV:=hid (show cq l (some a)=(n,some (a+k)) by rw [HV0.out,if_neg (by omega)]);have hn2:(n:Int)≤5000:=by omega
      have hk:=HLE.out;have hw1:IntKind.i64.wrap (n:Int)=(n:Int):=IntWalk.i64_in _ (by omega);have hw2:IntKind.i64.wrap ((a:Int)+(k:Int))=((a+k:Nat):Int):=by rw [IntWalk.i64_in _ (by omega)];rfl
      go_wp2_with fail;go_ret2;exact ⟨by rw [HV.out];rfl,rfl⟩
    ·have HV:=hid (show cq l (some a)=(0,none) by rw [HV0.out,if_pos (.inl hc)]);have hc2:(c == 0)=false:=by simpa using hc
     have hc3:(c != 0)=true:=by simpa using hc
     go_wp2_with fail;go_ret2;exact ⟨by rw [HV.out];rfl,rfl⟩
theorem iT (l:By) (p:Option Nat) (n:Nat) (w:World) (hl:l.length≤1000000) (hn:n≤1000000):
  Calls Tryz.prog 115 #[.string (al l),.int .i64 (dQ p),.int .i64 n] w fun e w'=>e=.returned (jX (bJ l p n))∧w=w':=by
 have hsz:((al l).size:Int)=(l.length:Int):=by rw [aq]
 have hsn:(al l).size=l.length:=aq l;go_enter Tryz.func115,Tryz.ntmps115;cases p with
 | none=> have HV:=hid (show bJ l none n=([],none) from rfl);simp only [dQ];go_wp2_with fail;go_ret2;exact ⟨by rw [HV.out];rfl,rfl⟩
 | some a=>
   simp only [dQ];have h0:¬ ((a:Int)<0):=by omega
   have h0b:(0:Int)≤(a:Int):=by omega
   by_cases h1:l.length<a
   ·have HV:=hid (show bJ l (some a) n=([],none) by unfold bJ;simp only;rw [if_pos (by omega)]);have h2:((al l).size:Int)<(a:Int):=by omega
    clear hsz hsn h1;go_wp2_with fail;go_ret2;exact ⟨by rw [HV.out];rfl,rfl⟩
   ·have h2:(a:Int)≤((al l).size:Int):=by omega
    have hw1:IntKind.i64.wrap (((al l).size:Int) - (a:Int))=((al l).size:Int) - (a:Int):=IntWalk.i64_in _ (by omega);have hw2:IntKind.i64.wrap ((a:Int)+(n:Int))=((a+n:Nat):Int):=by rw [IntWalk.i64_in _ (by omega)];rfl
    by_cases h3:l.length<a+n
    ·have HV:=hid (show bJ l (some a) n=([],none) by unfold bJ;simp only;rw [if_pos h3]);have h4:((al l).size:Int) - (a:Int)<(n:Int):=by omega
     clear hsz hsn h1 h3;go_wp2_with fail;go_ret2;exact ⟨by rw [HV.out];rfl,rfl⟩
    ·have HV:=hid (show bJ l (some a) n=((l.drop a).take n,some (a+n)) by unfold bJ;simp only;rw [if_neg h3]);have h4:(n:Int)≤((al l).size:Int) - (a:Int):=by omega
     have h5:((a+n:Nat):Int)≤((al l).size:Int):=by omega
     have h6:(a:Int)≤((a+n:Nat):Int):=by omega
     have HX:=hid (show (al l).extract a (a+n)=al ((l.drop a).take n) by rw [cR,aW,Nat.add_sub_cancel_left]);clear hsz hsn h1 h3;go_wp2_with fail;go_ret2;exact ⟨by rw [HV.out];simp only [jX,dQ];rw [← HX.out];rfl,rfl⟩
theorem hX (l:By) (p:Option Nat) (w:World) (hl:l.length≤1000000):
  Calls Tryz.prog 113 #[.string (al l),.int .i64 (dQ p)] w fun e w'=>e=.returned (jY (ep l p))∧w=w':=by
 have HP:=hid (iT l p 4 w hl (by omega));have HF:=hid (show ep l p=((bJ l p 4).2.elim 0 fun _=>bM (bJ l p 4).1,(bJ l p 4).2) from rfl)
 have HL:=hid (show ∀ b,(bJ l p 4).2=some b→(bJ l p 4).1.length=4∧b≤l.length from fun b=>by
  cases p with
  | none=>intro h;cases h
  | some a=>
    unfold bJ;simp only
    split
    ·intro h;cases h
    ·intro h;injection h with h
     refine ⟨by rw [List.length_take,List.length_drop];omega,by omega⟩)
 generalize dQ p=pv at *;go_enter Tryz.func113,Tryz.ntmps113;go_wp2_with fail;refine HP.out.mono ?_;generalize bJ l p 4=x at *;obtain ⟨t,q⟩:=x;rintro e w1 ⟨rfl,rfl⟩;unfold jX;simp only at HF HL;cases q with
 | none=> have HV:=hid (show ep l p=(0,none) from HF.out);simp only [dQ];go_wp2_with fail;go_ret2;exact ⟨by rw [HV.out];rfl,rfl⟩
 | some b=>
   obtain ⟨h4,hb⟩:=HL.out b rfl;have HV:=hid (show ep l p=(bM t,some b) from HF.out);have hs4:(al t).size=4:=by rw [aq,h4]
   have HU:=hid (show bM t<4294967296 from by have:=fH t;rw [h4] at this;exact this);simp only [dQ];have h0:(0:Int)≤(b:Int):=by omega
   go_wp2_with fail;refine (ip (al t) w (by omega) (by omega)).mono ?_;rw [aW];rintro e w1 ⟨rfl,rfl⟩;have hu:=HU.out;generalize bM t=u at *;have hw1:IntKind.i64.wrap (u:Int)=(u:Int):=IntWalk.i64_in _ (by omega);go_wp2_with fail;go_ret2;exact ⟨by rw [HV.out];rfl,rfl⟩
end Go.Proofs.YtknioodagnjchaaGreatDoor
namespace Go.Proofs.YtknioodagnjchaaGreatDoor
open Go.RowKit
structure QSt (b3 gn:Nat) (n:Nd) (vk vc vd:Value) (w:World):Prop where
 g:w.heap[gn]?=some (ap n vk vc vd)
 k:Own sC 1 9 b3 w vk n.keys
 c:Own cC 3 119 b3 w vc n.cells
 d:Own iC 1 3 b3 w vd n.kids
 kc:Dis vk vc
 kd:Dis vk vd
 cd:Dis vc vd
 h1:gn<b3
section
variable {b3 gn:Nat} {n:Nd} {vk vc vd v':Value} {w w' w5:World}
theorem QSt.draw (h:QSt b3 gn n vk vc vd w):QSt b3 gn n vk vc vd w.drew:=⟨h.g,h.k,h.c,h.d,h.kc,h.kd,h.cd,h.h1⟩
theorem QSt.alloc (h:QSt b3 gn n vk vc vd w) (o:Obj):QSt b3 gn n vk vc vd (w.alloc o):=
 ⟨ai h.g o,h.k.alloc o,h.c.alloc o,h.d.alloc o,h.kc,h.kd,h.cd,h.h1⟩
theorem QSt.below (h:QSt b3 gn n vk vc vd w) (hb:Below w.heap.size w w'):QSt b3 gn n vk vc vd w':=
 ⟨ae h.g hb,h.k.below hb,h.c.below hb,h.d.below hb,h.kc,h.kd,h.cd,h.h1⟩
theorem QSt.addK (h:QSt b3 gn n vk vc vd w) {x:By} (ho:Own sC 1 9 b3 w5 v' (n.keys ++ [x])) (hg:w.grownBy w5 vk.ownBlock) (hat:v'.ownBlock=vk.ownBlock∨v'.ownBlock=some w.heap.size):
  QSt b3 gn { n with keys:=n.keys ++ [x] } v' vc vd (w5.setCell ⟨gn,1,none⟩ v'):=by
 have hb:∀ k,vk.ownBlock=some k→b3≤k:=fun k hk=>(h.k.lt k hk).1
 have hg5:=ba h.g hg hb h.h1;have hc:Ch (fun j=>j=gn) w5 (w5.setCell ⟨gn,1,none⟩ v'):=(Ch.refl (fun j=>j=gn) w5).setCell (p:=⟨gn,1,none⟩) rfl v';have hc5:=h.c.dis hg (h.kc.symm);have hd5:=h.d.dis hg (h.kd.symm)
 exact ⟨ah hg5 1 v',ho.ch hc (fun j hj e=>by have:=(ho.lt j hj).1;have:=h.h1;omega),hc5.ch hc (fun j hj e=>by have:=(hc5.lt j hj).1;have:=h.h1;omega),hd5.ch hc (fun j hj e=>by have:=(hd5.lt j hj).1;have:=h.h1;omega),
  h.kc.app hat h.c,h.kd.app hat h.d,h.cd,h.h1⟩
theorem QSt.addC (h:QSt b3 gn n vk vc vd w) {x:Ce} (ho:Own cC 3 119 b3 w5 v' (n.cells ++ [x])) (hg:w.grownBy w5 vc.ownBlock) (hat:v'.ownBlock=vc.ownBlock∨v'.ownBlock=some w.heap.size):
  QSt b3 gn { n with cells:=n.cells ++ [x] } vk v' vd (w5.setCell ⟨gn,2,none⟩ v'):=by
 have hb:∀ k,vc.ownBlock=some k→b3≤k:=fun k hk=>(h.c.lt k hk).1
 have hg5:=ba h.g hg hb h.h1;have hc:Ch (fun j=>j=gn) w5 (w5.setCell ⟨gn,2,none⟩ v'):=(Ch.refl (fun j=>j=gn) w5).setCell (p:=⟨gn,2,none⟩) rfl v';have hk5:=h.k.dis hg h.kc;have hd5:=h.d.dis hg (h.cd.symm)
 exact ⟨ah hg5 2 v',hk5.ch hc (fun j hj e=>by have:=(hk5.lt j hj).1;have:=h.h1;omega),ho.ch hc (fun j hj e=>by have:=(ho.lt j hj).1;have:=h.h1;omega),hd5.ch hc (fun j hj e=>by have:=(hd5.lt j hj).1;have:=h.h1;omega),
  (h.kc.symm.app hat h.k).symm,h.kd,h.cd.app hat h.d,h.h1⟩
theorem QSt.addD (h:QSt b3 gn n vk vc vd w) {x:Int} (ho:Own iC 1 3 b3 w5 v' (n.kids ++ [x])) (hg:w.grownBy w5 vd.ownBlock) (hat:v'.ownBlock=vd.ownBlock∨v'.ownBlock=some w.heap.size):
  QSt b3 gn { n with kids:=n.kids ++ [x] } vk vc v' (w5.setCell ⟨gn,3,none⟩ v'):=by
 have hb:∀ k,vd.ownBlock=some k→b3≤k:=fun k hk=>(h.d.lt k hk).1
 have hg5:=ba h.g hg hb h.h1;have hc:Ch (fun j=>j=gn) w5 (w5.setCell ⟨gn,3,none⟩ v'):=(Ch.refl (fun j=>j=gn) w5).setCell (p:=⟨gn,3,none⟩) rfl v';have hk5:=h.k.dis hg h.kd;have hc5:=h.c.dis hg h.cd
 exact ⟨ah hg5 3 v',hk5.ch hc (fun j hj e=>by have:=(hk5.lt j hj).1;have:=h.h1;omega),hc5.ch hc (fun j hj e=>by have:=(hc5.lt j hj).1;have:=h.h1;omega),ho.ch hc (fun j hj e=>by have:=(ho.lt j hj).1;have:=h.h1;omega),
  h.kc,(h.kd.symm.app hat h.k).symm,(h.cd.symm.app hat h.c).symm,h.h1⟩
end
theorem mJ {l:By} {a b:Nat} (h:(cq l (some a)).2=some b):a+1≤b∧b≤l.length:=by
 unfold cq at h;simp only at h
 split at h
 ·cases h
 ·split at h
  ·cases h
  ·rename_i h0 h1
   have hu:(fU (l.drop a)).2.2=0:=Decidable.of_not_not fun h=>h1 (.inl h)
   have h2:=jA hu;have h3:0<(fU (l.drop a)).2.1:=jM (l.drop a) 0 0 hu;rw [List.length_drop] at h2;injection h with h
   omega
theorem oO (l:By) (p:Option Nat):(cq l p).1≤5000:=by
 cases p with
 | none=>exact Nat.zero_le _
 | some a=>
   unfold cq;simp only
   split
   ·exact Nat.zero_le _
   ·split
    ·exact Nat.zero_le _
    ·simp only;omega
theorem iS {l:By} {a b n:Nat} (h:(bJ l (some a) n).2=some b):b=a+n∧b≤l.length:=by
 unfold bJ at h;simp only at h
 split at h
 ·cases h
 ·injection h with h
  omega
theorem ll (l:By) (p:Option Nat) (n:Nat):(bJ l p n).1.length≤l.length:=by
 cases p with
 | none=>exact Nat.zero_le _
 | some a=>
   unfold bJ;simp only
   split
   ·exact Nat.zero_le _
   ·rw [List.length_take,List.length_drop];omega
theorem qI {l:By} {a b:Nat} (h:(iV l (some a)).2=some b):a+1≤b∧b≤l.length:=by
 unfold iV at h;cases hq:(cq l (some a)).2 with
 | none=>rw [hq] at h;cases h
 | some c=> rw [hq] at h;have:=mJ hq;have:=iS h;omega
theorem jZ {l:By} {a b:Nat} (h:(ep l (some a)).2=some b):a≤b∧b≤l.length:=by have:=iS (show (bJ l (some a) 4).2=some b from h);omega
theorem pJ {l:By} {a b:Nat} (h:(eq l (some a)).2=some b):a≤b∧b≤l.length:=by
 unfold eq at h;cases hq:(cq l (some a)).2 with
 | none=>
   rw [hq] at h
   split at h <;> cases h
 | some c=>
   rw [hq] at h;have h1:=mJ hq
   split at h
   ·have:=jZ h;omega
   ·have:=iS h;omega
theorem n8 (l:By) (p:Option Nat):(eq l p).1.data.length≤l.length:=by
 unfold eq
 split
 ·exact Nat.zero_le _
 ·exact ll _ _ _
structure QSz (l:By) (p:Option Nat) (n:Nd):Prop where
 sum:n.keys.length+(p.elim 0 fun a=>233 - a)≤234
 pos:∀ a,p=some a→a≤232
 c:n.cells.length≤n.keys.length
 d:n.kids.length≤n.keys.length+1
 kl:∀ k ∈ n.keys,k.length≤232
 cl:∀ c ∈ n.cells,c.data.length≤232
theorem QSz.bd {l:By} {p:Option Nat} {n:Nd} (h:QSz l p n):n.Bd:=by have:=h.sum;exact ⟨by omega,by have:=h.c;omega,by have:=h.d;omega,fun k hk=>by have:=h.kl k hk;omega,fun c hc=>by have:=h.cl c hc;omega⟩
theorem QSz.step {l:By} {a b:Nat} {n:Nd} {key:By} {p:Option Nat} (h:QSz l (some a) n) (hb:a+1≤b) (hk:key.length≤232) (hp:∀ d,p=some d→b≤d∧d≤232):
  (∀ c:Ce,c.data.length≤232→QSz l p { n with keys:=n.keys ++ [key],cells:=n.cells ++ [c] })∧∀ d:Int,QSz l p { n with keys:=n.keys ++ [key],kids:=n.kids ++ [d] }:=by
 have h1:=h.sum;have h2:=h.pos a rfl
 have h3:n.keys.length+1+(p.elim 0 fun a=>233 - a)≤234:=by
  simp only [Option.elim] at h1;cases p with
  | none=>simp only [Option.elim];omega
  | some d=>have:=hp d rfl;simp only [Option.elim];omega
 have hkl:∀ k ∈ n.keys ++ [key],k.length≤232:=fun k hk'=>by
  rcases List.mem_append.1 hk' with hk' | hk'
  ·exact h.kl k hk'
  ·rw [List.mem_singleton.1 hk'];exact hk
 refine ⟨fun c hc=>⟨by simpa using h3,fun d e=>(hp d e).2,by have:=h.c;simp;omega,by have:=h.d;simp;omega,hkl,fun c' hc'=>?_⟩,fun d=>⟨by simpa using h3,fun d e=>(hp d e).2,by have:=h.c;simp;omega,by have:=h.d;simp;omega,hkl,h.cl⟩⟩;rcases List.mem_append.1 hc' with hc' | hc'
 ·exact h.cl c' hc'
 ·rw [List.mem_singleton.1 hc'];exact hc
theorem lj {l:By} (hl:l.length=232):QSz l (bQ l).1 (bQ l).2∧(bQ l).2.leaf=decide (l.getD 0 0=1):=by
 unfold bQ
 split
 ·rename_i h1
  exact ⟨⟨by simp,fun a e=>by injection e with e;omega,by simp,by simp,by simp,by simp⟩,by rw [decide_eq_true h1]⟩
 ·rename_i h1
  refine ⟨⟨?_,fun a e=>by have:=jZ e;omega,by simp,by simp,by simp,by simp⟩,by rw [decide_eq_false h1]⟩;simp only [List.length_nil,Nat.zero_add];cases (ep l (some 3)).2 with
  | none=>simp
  | some a=>simp;omega
theorem lZ {l:By} {p:Option Nat} {n:Nd} (h:lY l=some (p,n)):qJ l=if p≠none∧db n=0∧dD n=l then some n else none:=by
 unfold qJ;rw [h];cases p with
 | none=>simp
 | some a=>simp
end Go.Proofs.YtknioodagnjchaaGreatDoor
namespace Go.Proofs.YtknioodagnjchaaGreatDoor
open Go.Lib (hid)
open Go.RowKit
theorem dE (a:Nat):dQ (some a)=(a:Int):=rfl
theorem fi:dQ none=-1:=rfl
theorem sK {n:Nat} (h:n<1000000):IntKind.i64.wrap (n:Int)=(n:Int):=IntWalk.i64_in _ (by omega)
theorem tY {l:By} (hl:l.length=232):bM ((l.drop 1).take 2)=(l.getD 1 0).toNat * 256+(l.getD 2 0).toNat:=by
 match l,hl with
 | a :: b :: c :: r,_=>simp [bM]
theorem oz {l:By} {i:Nat} (h:i<(al l).size):(al l)[i]=l.getD i 0:=by rw [List.getD_eq_getElem?_getD,List.getElem?_eq_getElem h,Option.getD_some];rfl
theorem mK (l:By) (hl:l.length=232) (w:World):Calls Tryz.prog 63 #[.string (al l)] w fun e w'=>∃ v c,e=.returned (.tuple #[v,.int .i64 c])∧tW w.heap.size w' v c (cN l)∧Below w.heap.size w w':=by
 have HDN:=hid (rP hl);have hs1:(al l).size=232:=(aq l).trans hl;have hs0:((al l).size:Int)=232:=by rw [hs1];rfl
 have hl6:l.length≤1000000:=by omega
 have hb0:(al l)[0]'(by rw [hs1];decide)=l.getD 0 0:=oz _;have hb1:(al l)[1]'(by rw [hs1];decide)=l.getD 1 0:=oz _;have hb2:(al l)[2]'(by rw [hs1];decide)=l.getD 2 0:=oz _;obtain ⟨lf,hlf⟩:∃ lf:Bool,lf=decide (l.getD 0 0=1):=⟨_,rfl⟩;have hb3:(((l.getD 0 0).toNat:Int) == 1)=lf:=by
  rw [hlf];by_cases h:l.getD 0 0=1
  ·rw [h];rfl
  ·rw [decide_eq_false h];refine beq_eq_false_iff_ne.2 fun e=>h ?_
   apply UInt8.toNat_inj.1;show (l.getD 0 0).toNat=1;omega
 have HQI:=hid (show lf=false→bQ l=((ep l (some 3)).2,⟨false,[],[],[((ep l (some 3)).1:Int)]⟩) from fun h=>by
  unfold bQ;rw [if_neg (by rw [hlf] at h;simpa using h)])
 have HQL:=hid (show lf=true→bQ l=(some 3,⟨true,[],[],[]⟩) from fun h=>by
  unfold bQ;rw [if_pos (by rw [hlf] at h;simpa using h)])
 have HLF:=hid (show (bQ l).2.leaf=lf by rw [(lj hl).2,hlf]);have HM:=hid (tY hl);have HSS:=hid (lj hl).1;have HRW:=hid (show lY l=pH l (bM ((l.drop 1).take 2)) (bQ l).1 (bQ l).2 from rfl);rw [HM.out] at HRW;clear hlf;have hz1:=(l.getD 1 0).toNat_lt;have hz2:=(l.getD 2 0).toNat_lt;generalize l.getD 0 0=y0 at *;generalize l.getD 1 0=y1 at *;generalize l.getD 2 0=y2 at *;have hw1:IntKind.i64.wrap (y1.toNat:Int)=(y1.toNat:Int):=sK (by omega);have hw2:IntKind.i64.wrap (y2.toNat:Int)=(y2.toNat:Int):=sK (by omega);have hw3:IntKind.i64.wrap ((y1.toNat:Int) * 256)=(y1.toNat:Int) * 256:=IntWalk.i64_in _ (by omega);have hw4:IntKind.i64.wrap ((y1.toNat:Int) * 256+(y2.toNat:Int))=((y1.toNat * 256+y2.toNat:Nat):Int):=by rw [IntWalk.i64_in _ (by omega)];omega
 go_enter Tryz.func63,Tryz.ntmps63;have HS3:=hid (show QSt (w.heap.size+2) (w.heap.size+1) ⟨lf,[],[],[]⟩ (.slice none 0 0) (.slice none 0 0) (.slice none 0 0) ((w.alloc (ap Nd.zero (.slice none 0 0) (.slice none 0 0) (.slice none 0 0))).alloc (ap ⟨lf,[],[],[]⟩ (.slice none 0 0) (.slice none 0 0) (.slice none 0 0))) from
  ⟨ag (by simp),Own.nil,Own.nil,Own.nil,Dis.nil,Dis.nil,Dis.nil,by omega⟩)
 have HZ3:=hid (show ((w.alloc (ap Nd.zero (.slice none 0 0) (.slice none 0 0) (.slice none 0 0))).alloc (ap ⟨lf,[],[],[]⟩ (.slice none 0 0) (.slice none 0 0) (.slice none 0 0))).heap[w.heap.size]?=some (ap Nd.zero (.slice none 0 0) (.slice none 0 0) (.slice none 0 0)) from
  ai (ag rfl) _)
 have HW3:=hid (((Below.refl _ w).alloc (Nat.le_refl _) (ap Nd.zero (.slice none 0 0) (.slice none 0 0) (.slice none 0 0))).alloc (by simp) (ap ⟨lf,[],[],[]⟩ (.slice none 0 0) (.slice none 0 0) (.slice none 0 0)));have HH3:((w.alloc (ap Nd.zero (.slice none 0 0) (.slice none 0 0) (.slice none 0 0))).alloc (ap ⟨lf,[],[],[]⟩ (.slice none 0 0) (.slice none 0 0) (.slice none 0 0))).heap.size=w.heap.size+2:=by simp
 go_upto_region 4 with fail
 generalize hq1:(w.alloc (.cells #[.bool false,.slice none 0 0,.slice none 0 0,.slice none 0 0] 110)).alloc (.cells #[.bool lf,.slice none 0 0,.slice none 0 0,.slice none 0 0] 110)=w3 at *;have hq2:(w.alloc (ap Nd.zero (.slice none 0 0) (.slice none 0 0) (.slice none 0 0))).alloc (ap ⟨lf,[],[],[]⟩ (.slice none 0 0) (.slice none 0 0) (.slice none 0 0))=w3:=hq1;rw [hq2] at HS3 HZ3 HW3 HH3;clear hq1 hq2;have HH:=hid HH3;rw [← HH3] at HS3;have hx3:w.heap.size+1<w3.heap.size:=by omega
 clear HH3;refine aJ (by kernel_rfl) (by kernel_rfl) ?_
 repeat (go_big_quiet_step (fail))
 refine wpQuiet_nil ?_;rintro w4 ⟨⟨w5,hb⟩,rfl⟩;have HS4:=hid (HS3.out.below hb);have HC4:=hid (Ch.of_below (S:=fun k=>k=w.heap.size+1) hb);clear hb hw1 hw2 hw3 hw4 hb0 hb1 hb2 hb3 HS3;have hm:(y1.toNat:Int) * 256+(y2.toNat:Int)=((y1.toNat * 256+y2.toNat:Nat):Int):=by omega
 have hml:y1.toNat * 256+y2.toNat<65536:=by omega
 rw [hm];clear hm HM;generalize y1.toNat * 256+y2.toNat=m at *;obtain ⟨a0,a1,a2,a3,a4⟩:=aa HS4.out.g;simp only at a0;go_upto_if 42 with fail
 clear a0 a1 a2 a3 a4;go_cut [6] from 7 to 55 (fun v wc=>∃ vd,v=.int .i64 (dQ (bQ l).1)∧QSt w3.heap.size (w.heap.size+1) (bQ l).2 (.slice none 0 0) (.slice none 0 0) vd wc∧Ch (fun k=>k=w.heap.size+1) w3 wc)
 case first=>
  obtain ⟨a0,a1,a2,a3,a4⟩:=aa HS4.out.g;simp only at a0;cases lf
  ·have HQ:=hid (hX l (some 3) w4 hl6);obtain ⟨⟨x,p⟩,hx⟩:∃ x,ep l (some 3)=x:=⟨_,rfl⟩;have HST:=hid (show bQ l=(p,⟨false,[],[],[(x:Int)]⟩) by rw [HQI.out rfl,hx]);rw [hx,show dQ (some 3)=3 from rfl] at HQ;clear hx;unfold jY at HQ;simp only at HQ;have HPV:=hid (show dQ (bQ l).1=dQ p by rw [HST.out]);generalize dQ p=pv at *;go_wp2_with fail;refine HQ.out.mono ?_;rintro e w5 ⟨rfl,rfl⟩;have fz:=ab HS4.out.g 3;go_wp2_with (at_builtin;refine Hid.out ?_);refine hid ?_;refine am (xs:=[]) (ys:=[(x:Int)]) rfl rfl bt rfl rfl (HS4.out.d.alloc _) (Sl.one (x:Int) (by simp) aA rfl) (by simp [maxLen]) (by simp) (by have:=HC4.out.size;simp;omega) ?_;intro v' w6 ho hg hat;have HG6:=hid (ba (HS4.out.alloc _).g hg (fun k hk=>(HS4.out.d.lt k hk).1) HS4.out.h1);have HS6:=hid ((HS4.out.alloc _).addD ho hg hat);obtain ⟨A6,c6,h6⟩:=iI ho;simp only [List.length_nil,Nat.zero_add] at h6;subst h6;clear a0 a1 a2 a3 a4 fz;obtain ⟨e0,e1,e2,e3,e4⟩:=aa HG6.out;have ez:=ab HG6.out 3;have HC6:=hid ((HC4.out.alloc _).then (Ch.of_grown (S:=fun k=>w3.heap.size≤k) hg (fun k hk=>(HS4.out.d.lt k hk).1)) (fun i e=>.inr e));clear ho hg hat;go_wp2_with fail;go_meet
   case rel=> rw [HPV.out,HST.out];exact ⟨_,rfl,HS6.out,HC6.out.setCell (p:=⟨w.heap.size+1,3,none⟩) rfl _⟩
  ·have HST:=hid (HQL.out rfl);go_wp2_with fail;go_meet
   case rel=> rw [HST.out];exact ⟨_,rfl,HS4.out,HC4.out⟩
 case rest=>
  obtain ⟨vd,rfl,hs5,hc5⟩:=hcut;have HS5:=hid hs5;have HC5:=hid hc5;clear hs5 hc5 HS4 HC4 HQI HQL;generalize (bQ l).1=p0 at *;generalize (bQ l).2=n0 at *;go_wp2_with fail;go_loopw [6,9] (fun av iv wr=>∃ (c:Nat) (p:Option Nat) (n:Nd) (vk vc vd:Value),c≤m∧av=.int .i64 (dQ p)∧iv=.int .i64 ((m - c:Nat):Int)∧pH l c p n=lY l∧QSz l p n∧n.leaf=lf∧QSt w3.heap.size (w.heap.size+1) n vk vc vd wr∧Ch (fun k=>k=w.heap.size+1) w3 wr) (fun _ iv _=>m - (intOf iv).toNat)
  case atStart=>exact ⟨m,p0,n0,_,_,_,Nat.le_refl _,rfl,by rw [Nat.sub_self];rfl,HRW.out.symm,HSS.out,HLF.out,HS5.out,HC5.out⟩
  case round=>
   obtain ⟨c,p,n,vk,vc,vd',hcm,rfl,rfl,hqg,hsz,hlf,hst,hch⟩:=hrel;clear HRW HSS HLF HS5 HC5;have HQG:=hid hqg;have HSZ:=hid hsz;have HST:=hid hst;have HCH:=hid hch;have HLN:=hid hlf;clear hqg hsz hst hch hlf;obtain ⟨A1,c1,rfl⟩:=Sl.len' (HST.out.k.sl aP);obtain ⟨A2,c2,rfl⟩:=Sl.len' (HST.out.c.sl bu);obtain ⟨A3,c3,rfl⟩:=Sl.len' (HST.out.d.sl aA);obtain ⟨a0,a1,a2,a3,a4⟩:=aa HST.out.g;rw [HLN.out] at a0;cases c with
   | zero=>
     have HRAW:=hid (show lY l=some (p,n) from HQG.out.symm);rw [Nat.sub_zero];cases p with
     | none=>
       (first | rw [dE] | rw [fi])
       have HNV:=hid (show NdV wr (.agg #[.bool lf,.slice A1 n.keys.length c1,.slice A2 n.cells.length c2,.slice A3 n.kids.length c3]) n from ⟨_,_,_,by rw [HLN.out],HST.out.k.sl aP,HST.out.c.sl bu,HST.out.d.sl aA⟩);go_wp2_with fail;refine (gy n _ _ HNV.out HSZ.out.bd).mono ?_;rintro e w7 ⟨rfl,hb⟩;have HS7:=hid (HST.out.below hb);have HCH7:=hid (HCH.out.trans (Ch.of_below hb));have HZ7:=hid (HCH7.out.keep HZ3.out (by omega));have HDE:=hid (HDN.out.symm.trans (lZ HRAW.out));clear hb a0 a1 a2 a3 a4;obtain ⟨a0,a1,a2,a3,a4⟩:=aa HS7.out.g;rw [HLN.out] at a0;obtain ⟨o0,o1,o2,o3,o4⟩:=aa HZ7.out;have q0:=ab HZ7.out 0;have q1:=ab HZ7.out 1;have q2:=ab HZ7.out 2;have q3:=ab HZ7.out 3;simp only [Nd.zero] at o0;have HEL:=hid (show db n=db n∧dD n=dD n from ⟨rfl,rfl⟩);generalize db n=ec at *;generalize dD n=el at *;have HV:=hid (show cN l=none by rw [HDE.out,if_neg (fun h=>h.1 rfl)]);go_wp2_with fail;have hf:=ah (ah (ah (ah HZ7.out 0 (.bool false)) 1 (.slice none 0 0)) 2 (.slice none 0 0)) 3 (.slice none 0 0);obtain ⟨z0,z1,z2,z3,-⟩:=aa (n:=Nd.zero) hf;simp only [Nd.zero] at z0;have HC0:=hid ((((Ch.refl (fun j=>j=w.heap.size) w7).setCell (p:=⟨w.heap.size,0,none⟩) rfl (.bool false)).setCell (p:=⟨w.heap.size,1,none⟩) rfl (.slice none 0 0)).setCell (p:=⟨w.heap.size,2,none⟩) rfl (.slice none 0 0) |>.setCell (p:=⟨w.heap.size,3,none⟩) rfl (.slice none 0 0))
       exact bodyPost_ret (v:=.tuple #[.agg #[.bool false,.slice none 0 0,.slice none 0 0,.slice none 0 0],.int .i64 4]) (by simp [results,Tryz.results63,go_sem,z0,z1,z2,z3]) rfl
        ⟨_,_,rfl,by rw [HV.out];exact ⟨rfl,rfl⟩,(HW3.out.trans (HCH7.out.below (B:=w.heap.size) (by omega) (by omega))).trans (HC0.out.below (B:=w.heap.size) (by have:=HCH7.out.size;omega) (by omega))⟩
     | some a=>
       have ha:(0:Int)≤(a:Int):=by omega
       (first | rw [dE] | rw [fi])
       have HNV:=hid (show NdV wr (.agg #[.bool lf,.slice A1 n.keys.length c1,.slice A2 n.cells.length c2,.slice A3 n.kids.length c3]) n from ⟨_,_,_,by rw [HLN.out],HST.out.k.sl aP,HST.out.c.sl bu,HST.out.d.sl aA⟩);go_wp2_with fail;refine (gy n _ _ HNV.out HSZ.out.bd).mono ?_;rintro e w7 ⟨rfl,hb⟩;have HS7:=hid (HST.out.below hb);have HCH7:=hid (HCH.out.trans (Ch.of_below hb));have HZ7:=hid (HCH7.out.keep HZ3.out (by omega));have HDE:=hid (HDN.out.symm.trans (lZ HRAW.out));clear hb a0 a1 a2 a3 a4;obtain ⟨a0,a1,a2,a3,a4⟩:=aa HS7.out.g;rw [HLN.out] at a0;obtain ⟨o0,o1,o2,o3,o4⟩:=aa HZ7.out;have q0:=ab HZ7.out 0;have q1:=ab HZ7.out 1;have q2:=ab HZ7.out 2;have q3:=ab HZ7.out 3;simp only [Nd.zero] at o0;have HEL:=hid (show db n=db n∧dD n=dD n from ⟨rfl,rfl⟩);generalize db n=ec at *;generalize dD n=el at *;by_cases hec:ec=0
       ·subst hec;by_cases hel:el=l
        ·subst hel;have HV:=hid (show cN el=some n by rw [HDE.out,if_pos ⟨by simp,rfl,rfl⟩]);go_wp2_with fail;have hf:=ah (ah (ah (ah HZ7.out 0 (.bool lf)) 1 (.slice A1 n.keys.length c1)) 2 (.slice A2 n.cells.length c2)) 3 (.slice A3 n.kids.length c3);obtain ⟨z0,z1,z2,z3,-⟩:=aa (n:=⟨lf,n.keys,n.cells,n.kids⟩) hf;have HC0:=hid ((((Ch.refl (fun j=>j=w.heap.size) w7).setCell (p:=⟨w.heap.size,0,none⟩) rfl (.bool lf)).setCell (p:=⟨w.heap.size,1,none⟩) rfl (.slice A1 n.keys.length c1)).setCell (p:=⟨w.heap.size,2,none⟩) rfl (.slice A2 n.cells.length c2) |>.setCell (p:=⟨w.heap.size,3,none⟩) rfl (.slice A3 n.kids.length c3))
         exact bodyPost_ret (v:=.tuple #[.agg #[.bool lf,.slice A1 n.keys.length c1,.slice A2 n.cells.length c2,.slice A3 n.kids.length c3],.int .i64 0]) (by simp [results,Tryz.results63,go_sem,z0,z1,z2,z3]) rfl
          ⟨_,_,rfl,by rw [HV.out];exact ⟨rfl,_,_,_,by rw [HLN.out],(HS7.out.k.base (by omega)).ch HC0.out (fun j hj e=>by have:=(HS7.out.k.lt j hj).1;omega),(HS7.out.c.base (by omega)).ch HC0.out (fun j hj e=>by have:=(HS7.out.c.lt j hj).1;omega),(HS7.out.d.base (by omega)).ch HC0.out (fun j hj e=>by have:=(HS7.out.d.lt j hj).1;omega),HS7.out.kc,HS7.out.kd,HS7.out.cd⟩,
           (HW3.out.trans (HCH7.out.below (B:=w.heap.size) (by omega) (by omega))).trans (HC0.out.below (B:=w.heap.size) (by have:=HCH7.out.size;omega) (by omega))⟩
        ·have hel2:((al el).toList == (al l).toList)=false:=by rw [aL,aL];simpa using hel
         have hel3:((al el).toList != (al l).toList)=true:=by rw [bne,hel2];rfl
         have HV:=hid (show cN l=none by rw [HDE.out,if_neg (fun h=>hel h.2.2)]);go_wp2_with fail;have hf:=ah (ah (ah (ah HZ7.out 0 (.bool false)) 1 (.slice none 0 0)) 2 (.slice none 0 0)) 3 (.slice none 0 0);obtain ⟨z0,z1,z2,z3,-⟩:=aa (n:=Nd.zero) hf;simp only [Nd.zero] at z0;have HC0:=hid ((((Ch.refl (fun j=>j=w.heap.size) w7).setCell (p:=⟨w.heap.size,0,none⟩) rfl (.bool false)).setCell (p:=⟨w.heap.size,1,none⟩) rfl (.slice none 0 0)).setCell (p:=⟨w.heap.size,2,none⟩) rfl (.slice none 0 0) |>.setCell (p:=⟨w.heap.size,3,none⟩) rfl (.slice none 0 0))
         exact bodyPost_ret (v:=.tuple #[.agg #[.bool false,.slice none 0 0,.slice none 0 0,.slice none 0 0],.int .i64 4]) (by simp [results,Tryz.results63,go_sem,z0,z1,z2,z3]) rfl
          ⟨_,_,rfl,by rw [HV.out];exact ⟨rfl,rfl⟩,(HW3.out.trans (HCH7.out.below (B:=w.heap.size) (by omega) (by omega))).trans (HC0.out.below (B:=w.heap.size) (by have:=HCH7.out.size;omega) (by omega))⟩
       ·have hec2:(ec == 0)=false:=by simpa using hec
        have hec3:(ec != 0)=true:=by rw [bne,hec2];rfl
        have HV:=hid (show cN l=none by rw [HDE.out,if_neg (fun h=>hec h.2.1)]);go_wp2_with fail;have hf:=ah (ah (ah (ah HZ7.out 0 (.bool false)) 1 (.slice none 0 0)) 2 (.slice none 0 0)) 3 (.slice none 0 0);obtain ⟨z0,z1,z2,z3,-⟩:=aa (n:=Nd.zero) hf;simp only [Nd.zero] at z0;have HC0:=hid ((((Ch.refl (fun j=>j=w.heap.size) w7).setCell (p:=⟨w.heap.size,0,none⟩) rfl (.bool false)).setCell (p:=⟨w.heap.size,1,none⟩) rfl (.slice none 0 0)).setCell (p:=⟨w.heap.size,2,none⟩) rfl (.slice none 0 0) |>.setCell (p:=⟨w.heap.size,3,none⟩) rfl (.slice none 0 0))
        exact bodyPost_ret (v:=.tuple #[.agg #[.bool false,.slice none 0 0,.slice none 0 0,.slice none 0 0],.int .i64 4]) (by simp [results,Tryz.results63,go_sem,z0,z1,z2,z3]) rfl
         ⟨_,_,rfl,by rw [HV.out];exact ⟨rfl,rfl⟩,(HW3.out.trans (HCH7.out.below (B:=w.heap.size) (by omega) (by omega))).trans (HC0.out.below (B:=w.heap.size) (by have:=HCH7.out.size;omega) (by omega))⟩
   | succ c=>
     have hmc:((m - (c+1):Nat):Int)<(m:Int):=by omega
     have hm0:(m - (c+1))+1=m - c:=by omega
     have HM0:=hid hm0;have hmb:m - (c+1)<65536:=by omega
     clear hm0;generalize m - (c+1)=i at *;cases p with
     | none=>
       have HRAW:=hid (show lY l=some (none,n) from HQG.out.symm)
       (first | rw [dE] | rw [fi])
       have HNV:=hid (show NdV wr (.agg #[.bool lf,.slice A1 n.keys.length c1,.slice A2 n.cells.length c2,.slice A3 n.kids.length c3]) n from ⟨_,_,_,by rw [HLN.out],HST.out.k.sl aP,HST.out.c.sl bu,HST.out.d.sl aA⟩);go_wp2_with fail;refine (gy n _ _ HNV.out HSZ.out.bd).mono ?_;rintro e w7 ⟨rfl,hb⟩;have HS7:=hid (HST.out.below hb);have HCH7:=hid (HCH.out.trans (Ch.of_below hb));have HZ7:=hid (HCH7.out.keep HZ3.out (by omega));have HDE:=hid (HDN.out.symm.trans (lZ HRAW.out));clear hb a0 a1 a2 a3 a4;obtain ⟨a0,a1,a2,a3,a4⟩:=aa HS7.out.g;rw [HLN.out] at a0;obtain ⟨o0,o1,o2,o3,o4⟩:=aa HZ7.out;have q0:=ab HZ7.out 0;have q1:=ab HZ7.out 1;have q2:=ab HZ7.out 2;have q3:=ab HZ7.out 3;simp only [Nd.zero] at o0;have HEL:=hid (show db n=db n∧dD n=dD n from ⟨rfl,rfl⟩);generalize db n=ec at *;generalize dD n=el at *;have HV:=hid (show cN l=none by rw [HDE.out,if_neg (fun h=>h.1 rfl)]);go_wp2_with fail;have hf:=ah (ah (ah (ah HZ7.out 0 (.bool false)) 1 (.slice none 0 0)) 2 (.slice none 0 0)) 3 (.slice none 0 0);obtain ⟨z0,z1,z2,z3,-⟩:=aa (n:=Nd.zero) hf;simp only [Nd.zero] at z0;have HC0:=hid ((((Ch.refl (fun j=>j=w.heap.size) w7).setCell (p:=⟨w.heap.size,0,none⟩) rfl (.bool false)).setCell (p:=⟨w.heap.size,1,none⟩) rfl (.slice none 0 0)).setCell (p:=⟨w.heap.size,2,none⟩) rfl (.slice none 0 0) |>.setCell (p:=⟨w.heap.size,3,none⟩) rfl (.slice none 0 0))
       exact bodyPost_ret (v:=.tuple #[.agg #[.bool false,.slice none 0 0,.slice none 0 0,.slice none 0 0],.int .i64 4]) (by simp [results,Tryz.results63,go_sem,z0,z1,z2,z3]) rfl
        ⟨_,_,rfl,by rw [HV.out];exact ⟨rfl,rfl⟩,(HW3.out.trans (HCH7.out.below (B:=w.heap.size) (by omega) (by omega))).trans (HC0.out.below (B:=w.heap.size) (by have:=HCH7.out.size;omega) (by omega))⟩
     | some a=>
       have ha:(0:Int)≤(a:Int):=by omega
       have HQ1:=hid (jp l (some a) wr hl6);have hx5:=oO l (some a);obtain ⟨⟨x1,p1⟩,hx1⟩:∃ x,cq l (some a)=x:=⟨_,rfl⟩;rw [hx1] at HQ1 hx5;simp only at hx5;have HQ2:=hid (iT l p1 x1 wr hl6 (by omega));have HKY:=hid (show iV l (some a)=bJ l p1 x1 by unfold iV;rw [hx1]);have HKL:=hid (show (bJ l p1 x1).1.length≤232 from hl ▸ ll l p1 x1);have HKP:=hid (fun b=>qI (l:=l) (a:=a) (b:=b));obtain ⟨⟨key,p2⟩,hx2⟩:∃ x,bJ l p1 x1=x:=⟨_,rfl⟩;rw [hx2] at HQ2 HKY HKL;simp only at HKL;rw [HKY.out] at HKP;simp only at HKP;clear hx1 hx2;unfold jY at HQ1;unfold jX at HQ2;simp only [dE] at HQ1 ⊢;simp only at HQ2;go_wp2_with fail;refine HQ1.out.mono ?_;rintro e w5 ⟨rfl,rfl⟩;clear HQ1;generalize dQ p1=v1 at *;go_wp2_with fail;refine HQ2.out.mono ?_;rintro e w5 ⟨rfl,rfl⟩;clear HQ2;cases p2 with
       | none=>
         have HV:=hid (show cN l=none by
          rw [← HDN.out];unfold qJ;rw [← HQG.out];unfold pH;rw [HKY.out])
         have HCH7:=HCH;have HZ7:=hid (HCH7.out.keep HZ3.out (by omega));obtain ⟨o0,o1,o2,o3,o4⟩:=aa HZ7.out;have q0:=ab HZ7.out 0;have q1:=ab HZ7.out 1;have q2:=ab HZ7.out 2;have q3:=ab HZ7.out 3;simp only [Nd.zero] at o0
         (first | rw [dE] | rw [fi])
         have hwz:∃ w7:World,w7=wr:=⟨_,rfl⟩;obtain ⟨w7,hw7⟩:=hwz;subst hw7;go_wp2_with fail;have hf:=ah (ah (ah (ah HZ7.out 0 (.bool false)) 1 (.slice none 0 0)) 2 (.slice none 0 0)) 3 (.slice none 0 0);obtain ⟨z0,z1,z2,z3,-⟩:=aa (n:=Nd.zero) hf;simp only [Nd.zero] at z0;have HC0:=hid ((((Ch.refl (fun j=>j=w.heap.size) w7).setCell (p:=⟨w.heap.size,0,none⟩) rfl (.bool false)).setCell (p:=⟨w.heap.size,1,none⟩) rfl (.slice none 0 0)).setCell (p:=⟨w.heap.size,2,none⟩) rfl (.slice none 0 0) |>.setCell (p:=⟨w.heap.size,3,none⟩) rfl (.slice none 0 0))
         exact bodyPost_ret (v:=.tuple #[.agg #[.bool false,.slice none 0 0,.slice none 0 0,.slice none 0 0],.int .i64 4]) (by simp [results,Tryz.results63,go_sem,z0,z1,z2,z3]) rfl
          ⟨_,_,rfl,by rw [HV.out];exact ⟨rfl,rfl⟩,(HW3.out.trans (HCH7.out.below (B:=w.heap.size) (by omega) (by omega))).trans (HC0.out.below (B:=w.heap.size) (by have:=HCH7.out.size;omega) (by omega))⟩
       | some b=>
         have hb:(0:Int)≤(b:Int):=by omega
         have hab:=HKP.out b rfl
         (first | rw [dE] | rw [fi])
         have fz:=ab HST.out.g 1;have hnk:n.keys.length≤1000:=by have:=HSZ.out.sum;omega
         go_wp2_with (at_builtin;refine Hid.out ?_);refine hid ?_;refine am (xs:=n.keys) (ys:=[key]) rfl rfl f8 rfl rfl (HST.out.k.alloc _) (Sl.one (key:By) (by simp) aP rfl) (by simp [maxLen];omega) (by simp;omega) (by have:=HCH.out.size;simp;omega) ?_;intro v' w8 ho hg hat;have HG8:=hid (ba (HST.out.alloc _).g hg (fun k hk=>(HST.out.k.lt k hk).1) HST.out.h1);have HS9:=hid ((HST.out.alloc _).addK ho hg hat);obtain ⟨A8,c8,h8⟩:=nM ho;subst h8;have HC8:=hid ((HCH.out.alloc _).then (Ch.of_grown (S:=fun k=>w3.heap.size≤k) hg (fun k hk=>(HST.out.k.lt k hk).1)) (fun i e=>.inr e));have HC9:=hid (HC8.out.setCell (p:=⟨w.heap.size+1,1,none⟩) rfl (.slice A8 (n.keys.length+1) c8));clear ho hg hat a0 a1 a2 a3 a4 fz HST HCH;obtain ⟨e0,e1,e2,e3,e4⟩:=aa HG8.out;have ez:=ab HG8.out 1;go_upto_region 18 with fail
         generalize w8.setCell ⟨w.heap.size+1,1,none⟩ (.slice A8 (n.keys.length+1) c8)=w9 at *;clear e0 e1 e2 e3 e4 ez HG8 HC8;obtain ⟨a0,a1,a2,a3,a4⟩:=aa HS9.out.g;simp only at a0 a1 a2 a3;rw [HLN.out] at a0;cases lf
         ·have HQ1:=hid (hX l (some b) w9 hl6);have HFP:=hid (fun d=>jZ (l:=l) (a:=b) (b:=d))
          have HQG2:=hid (show pH l c (ep l (some b)).2 { n with keys:=n.keys ++ [key],kids:=n.kids ++ [((ep l (some b)).1:Int)] }=lY l by
           rw [← HQG.out,pH,HKY.out];simp only;rw [if_neg (by rw [HLN.out];simp)])
          obtain ⟨⟨x,q⟩,hx⟩:∃ x,ep l (some b)=x:=⟨_,rfl⟩;rw [hx] at HQ1 HFP HQG2;simp only at HFP HQG2;clear hx;have HSZ2:=hid ((HSZ.out.step (p:=q) hab.1 HKL.out (fun d e=>by have:=HFP.out d e;omega)).2 x);unfold jY at HQ1;simp only [dE] at HQ1;go_wp2_with fail;refine HQ1.out.mono ?_;rintro e w10 ⟨rfl,rfl⟩;clear HQ1;obtain ⟨pv,hpv⟩:∃ v,v=dQ q:=⟨_,rfl⟩;have HPV:=hid hpv;rw [← hpv];clear hpv;have fz:=ab HS9.out.g 3;have hnd:n.kids.length≤1000:=by have:=HSZ.out.sum;have:=HSZ.out.d;omega
          go_wp2_with (at_builtin;refine Hid.out ?_);refine hid ?_;refine am (xs:=n.kids) (ys:=[(x:Int)]) rfl rfl bt rfl rfl (HS9.out.d.alloc _) (Sl.one (x:Int) (by simp) aA rfl) (by simp [maxLen];omega) (by simp;omega) (by have:=HC9.out.size;simp;omega) ?_;intro v' w10 ho hg hat;have HG10:=hid (ba (HS9.out.alloc _).g hg (fun k hk=>(HS9.out.d.lt k hk).1) HS9.out.h1);have HS11:=hid ((HS9.out.alloc _).addD ho hg hat);obtain ⟨A10,c10,h10⟩:=iI ho;subst h10;have HC10:=hid ((HC9.out.alloc _).then (Ch.of_grown (S:=fun k=>w3.heap.size≤k) hg (fun k hk=>(HS9.out.d.lt k hk).1)) (fun i e=>.inr e));clear ho hg hat a0 a1 a2 a3 a4 fz;obtain ⟨e0,e1,e2,e3,e4⟩:=aa HG10.out;have ez:=ab HG10.out 3;go_wp2_with fail;go_roundw
          case rel=>exact ⟨c,q,_,_,_,_,by omega,by rw [HPV.out],by rw [← HM0.out];go_num,HQG2.out,HSZ2.out,HLN.out,HS11.out,HC10.out.setCell (p:=⟨w.heap.size+1,3,none⟩) rfl _⟩
          case measure=>simp [intOf];omega
         ·have HQ1:=hid (jp l (some b) w9 hl6);have hx5:=oO l (some b);have HCP:=hid (fun d=>pJ (l:=l) (a:=b) (b:=d));have HCD:=hid (show (eq l (some b)).1.data.length≤232 from hl ▸ n8 l (some b))
          have HQG2:=hid (show pH l c (eq l (some b)).2 { n with keys:=n.keys ++ [key],cells:=n.cells ++ [(eq l (some b)).1] }=lY l by
           rw [← HQG.out,pH,HKY.out];simp only;rw [if_pos (by rw [HLN.out])])
          have HCE:=hid (show eq l (some b)=if 40<(cq l (some b)).1 then (⟨(cq l (some b)).1,[],(ep l (cq l (some b)).2).1⟩,(ep l (cq l (some b)).2).2)
           else (⟨(cq l (some b)).1,(bJ l (cq l (some b)).2 (cq l (some b)).1).1,0⟩,(bJ l (cq l (some b)).2 (cq l (some b)).1).2) from rfl)
          obtain ⟨⟨x3,p3⟩,hx3⟩:∃ x,cq l (some b)=x:=⟨_,rfl⟩;rw [hx3] at HQ1 hx5 HCE;simp only at hx5 HCE;clear hx3;obtain ⟨⟨ce,q⟩,hce⟩:∃ x,eq l (some b)=x:=⟨_,rfl⟩;rw [hce] at HCP HCD HQG2 HCE;simp only at HCP HCD HQG2;clear hce;have HSZ2:=hid ((HSZ.out.step (p:=q) hab.1 HKL.out (fun d e=>by have:=HCP.out d e;omega)).1 ce HCD.out);unfold jY at HQ1;simp only [dE] at HQ1;have HX10:=hid (ag (w0:=w9) (g:=w9.heap.size) (o:=cF ⟨x3,[],0⟩) rfl);have HS10:=hid (HS9.out.alloc (cF ⟨x3,[],0⟩));have HC10:=hid (HC9.out.alloc (cF ⟨x3,[],0⟩));have hg9:=HC9.out.size;have HF2:=hid (fun w=>hX l p3 w hl6);have HP2:=hid (fun w=>iT l p3 x3 w hl6 (by omega));go_wp2_with fail;refine HQ1.out.mono ?_;rintro e w10 ⟨rfl,rfl⟩;clear HQ1;obtain ⟨pv,hpv⟩:∃ v,v=dQ p3:=⟨_,rfl⟩;rw [← hpv] at HF2 HP2 ⊢;clear hpv;go_upto_region 24 with fail
          generalize hq1:w9.alloc (.cells #[.int .i64 x3,.string ⟨#[]⟩,.int .i64 0] 119)=w10 at *;have hq2:w9.alloc (cF ⟨x3,[],0⟩)=w10:=hq1;rw [hq2] at HX10 HS10 HC10;have HOW:=hid (And.intro (fun k hk=>(HS9.out.k.lt k hk).2) (And.intro (fun k hk=>(HS9.out.c.lt k hk).2) (fun k hk=>(HS9.out.d.lt k hk).2)));clear hq1 hq2 a0 a1 a2 a3 a4;have hgc:w3.heap.size≤w9.heap.size:=hg9;generalize w9.heap.size=gc at *;obtain ⟨e0,e1,e2,e3,e4,e5,e6⟩:=aF HX10.out;go_upto_if 112 with fail
          clear e0 e1 e2 e3 e4 e5 e6;go_cut [6,18,19,20,21] from 112 to 131 (fun v _ _ _ _ wc=>v=.int .i64 (dQ q)∧wc.heap[gc]?=some (cF ce)∧Ch (fun k=>k=gc) w10 wc)
          case first=>
           obtain ⟨e0,e1,e2,e3,e4,e5,e6⟩:=aF HX10.out;by_cases h40:40<x3
           ·have h41:(40:Int)<(x3:Int):=by omega
            rw [if_pos h40] at HCE;obtain ⟨⟨xp,p4⟩,hx4⟩:∃ x,ep l p3=x:=⟨_,rfl⟩;rw [hx4] at HF2 HCE;unfold jY at HF2;simp only at HF2;have HCE2:=hid (show ce=⟨x3,[],xp⟩∧q=p4 from ⟨(Prod.mk.inj HCE.out).1,(Prod.mk.inj HCE.out).2⟩);clear hx4;obtain ⟨pw,hpw⟩:∃ v,v=dQ p4:=⟨_,rfl⟩;rw [← hpw] at HF2;have HPW:=hid hpw;clear hpw;go_wp2_with fail;refine (HF2.out w10).mono ?_;rintro e w11 ⟨rfl,rfl⟩;go_wp2_with fail;go_meet
            case rel=>exact ⟨by rw [HPW.out,HCE2.out.2],by rw [HCE2.out.1];exact ah HX10.out 2 _,(Ch.refl (fun j=>j=gc) w10).setCell (p:=⟨gc,2,none⟩) rfl _⟩
           ·have h41:¬ (40:Int)<(x3:Int):=by omega
            have h42:(x3:Int)≤40:=by omega
            rw [if_neg h40] at HCE;obtain ⟨⟨dt,p4⟩,hx4⟩:∃ x,bJ l p3 x3=x:=⟨_,rfl⟩;rw [hx4] at HP2 HCE;unfold jX at HP2;simp only at HP2;have HCE2:=hid (show ce=⟨x3,dt,0⟩∧q=p4 from ⟨(Prod.mk.inj HCE.out).1,(Prod.mk.inj HCE.out).2⟩);clear hx4;obtain ⟨pw,hpw⟩:∃ v,v=dQ p4:=⟨_,rfl⟩;rw [← hpw] at HP2;have HPW:=hid hpw;clear hpw;go_wp2_with fail;refine (HP2.out w10).mono ?_;rintro e w11 ⟨rfl,rfl⟩;go_wp2_with fail;go_meet
            case rel=>exact ⟨by rw [HPW.out,HCE2.out.2],by rw [HCE2.out.1];exact ah HX10.out 1 _,(Ch.refl (fun j=>j=gc) w10).setCell (p:=⟨gc,1,none⟩) rfl _⟩
          case rest=>
           obtain ⟨rfl,hxc,hcc⟩:=hcut;have HXC:=hid hxc;have hle:w10.heap.size≤wc.heap.size:=hcc.size
           have HS11:=hid (show QSt w3.heap.size (w.heap.size+1) { n with keys:=n.keys ++ [key] } (.slice A8 (n.keys.length+1) c8) (.slice A2 n.cells.length c2) (.slice A3 n.kids.length c3) wc from
            ⟨hcc.keep HS10.out.g (by omega),HS10.out.k.ch hcc (fun j hj e=>by have:=HOW.out.1 j hj;omega),HS10.out.c.ch hcc (fun j hj e=>by have:=HOW.out.2.1 j hj;omega),HS10.out.d.ch hcc (fun j hj e=>by have:=HOW.out.2.2 j hj;omega),HS10.out.kc,HS10.out.kd,HS10.out.cd,HS10.out.h1⟩)
           have HC11:=hid (HC10.out.then hcc (fun i e=>.inr (by omega)));clear hxc hcc HOW;obtain ⟨e0,e1,e2,e3,e4,e5,e6⟩:=aF HXC.out;obtain ⟨a0,a1,a2,a3,a4⟩:=aa HS11.out.g;have fz:=ab HS11.out.g 2;have hnc:n.cells.length≤1000:=by have:=HSZ.out.sum;have:=HSZ.out.c;omega
           obtain ⟨pv2,hpv⟩:∃ v,v=dQ q:=⟨_,rfl⟩;have HPV:=hid hpv;rw [← hpv];clear hpv;go_wp2_with (at_builtin;refine Hid.out ?_);refine hid ?_;refine am (xs:=n.cells) (ys:=[ce]) rfl rfl gE rfl rfl (HS11.out.c.alloc _) (Sl.one (ce:Ce) (by simp) bu rfl) (by simp [maxLen];omega) (by simp;omega) (by have:=HC11.out.size;simp;omega) ?_;intro v' w12 ho hg hat;have HG12:=hid (ba (HS11.out.alloc _).g hg (fun k hk=>(HS11.out.c.lt k hk).1) HS11.out.h1);have HS13:=hid ((HS11.out.alloc _).addC ho hg hat);obtain ⟨A12,c12,h12⟩:=nN ho;subst h12;have HC12:=hid ((HC11.out.alloc _).then (Ch.of_grown (S:=fun k=>w3.heap.size≤k) hg (fun k hk=>(HS11.out.c.lt k hk).1)) (fun i e=>.inr e));clear ho hg hat a0 a1 a2 a3 a4 fz e0 e1 e2 e3 e4 e5 e6;obtain ⟨e0,e1,e2,e3,e4⟩:=aa HG12.out;have ez:=ab HG12.out 2;go_wp2_with fail;go_roundw
           case rel=>exact ⟨c,q,_,_,_,_,by omega,by rw [HPV.out],by rw [← HM0.out];go_num,HQG2.out,HSZ2.out,HLN.out,HS13.out,HC12.out.setCell (p:=⟨w.heap.size+1,2,none⟩) rfl _⟩
           case measure=>simp [intOf];omega
end Go.Proofs.YtknioodagnjchaaGreatDoor
