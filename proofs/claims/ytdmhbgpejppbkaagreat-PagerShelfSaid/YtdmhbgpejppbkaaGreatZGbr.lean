/- awake walked. Arguments read as data: slices of structs, structs by value, as the walks take them. Arguments of the pager's laws, read as lists. -/
import Derived.Test.YtdmhbgpejppbkaaGreatZGbq
import Derived.Test.YtdmhbgpejppbkaaGreatZGaa
import Derived.Test.YtdmhbgpejppbkaaGreatZGab
import Derived.Test.YtdmhbgpejppbkaaGreatZGbi
set_option maxRecDepth 100000
set_option maxHeartbeats 4000000
namespace Go.Proofs.YtdmhbgpejppbkaaGreat
open Go.Lib (hid)
open Go.RowKit Go.Maps
theorem lH (w:World):Calls Tryz.prog 39 #[.string ⟨#[97]⟩] w fun e w'=>e=.returned (.string (ak fulA))∧Below w.heap.size w w':=ky 97 w
theorem lG (w:World):Calls Tryz.prog 39 #[.string ⟨#[98]⟩] w fun e w'=>e=.returned (.string (ak fulB))∧Below w.heap.size w w':=ky 98 w
theorem qS (w:World):Calls Tryz.prog 39 #[.string ⟨#[99]⟩] w fun e w'=>e=.returned (.string (ak fulC))∧Below w.heap.size w w':=ky 99 w
theorem oS (w:World):Calls Tryz.prog 9 #[] w fun e w'=>e=.returned (.bool true)∧Below w.heap.size w w':=by go_enter Tryz.func9,Tryz.ntmps9;go_wp2_with fail;refine (tH w).mono ?_;rintro e w1 ⟨D,rfl,hd,hF,hb⟩;have HO:=hid (qP hd hF hb);generalize D.gd=gd at *;clear hd hF hb;go_wp2_with fail;refine HO.out.mono ?_;rintro e w2 ⟨gp,rfl,hI⟩;have HI:=hid hI;clear hI HO;go_wp2_with fail;refine (mI HI.out).mono ?_;rintro e w2 ⟨rfl,hI⟩;clear HI;have HI:=hid hI;clear hI;go_wp2_with fail;refine (oV HI.out).mono ?_;rintro e w2 ⟨rfl,hI⟩;clear HI;have HI:=hid hI;clear hI;go_wp2_with fail;refine (tI HI.out).mono ?_;rintro e w2 ⟨rfl,hI⟩;clear HI;have HI:=hid hI;clear hI;go_wp2_with fail;refine (lH _).mono ?_;rintro e w2 ⟨rfl,hb⟩;have HJ:=hid (AwI.post HI.out hb);clear hb HI;have HI:=HJ;clear HJ;go_wp2_with fail;refine (sg HI.out).mono ?_;rintro e w2 ⟨rfl,hI⟩;clear HI;have HI:=hid hI;clear hI;go_wp2_with fail;refine (oT HI.out).mono ?_;rintro e w2 ⟨rfl,hI⟩;clear HI;have HI:=hid hI;clear hI;go_wp2_with fail;refine (oU HI.out).mono ?_;rintro e w2 ⟨rfl,hI⟩;clear HI;have HI:=hid hI;clear hI;go_wp2_with fail;refine (lG _).mono ?_;rintro e w2 ⟨rfl,hb⟩;have HJ:=hid (AwI.post HI.out hb);clear hb HI;have HI:=HJ;clear HJ;go_wp2_with fail;refine (sf HI.out).mono ?_;rintro e w2 ⟨rfl,hI⟩;clear HI;have HI:=hid hI;clear hI;go_wp2_with fail;refine (sd HI.out).mono ?_;rintro e w2 ⟨rfl,hI⟩;clear HI;have HI:=hid hI;clear hI;go_wp2_with fail;refine (qS _).mono ?_;rintro e w2 ⟨rfl,hb⟩;have HJ:=hid (AwI.post HI.out hb);clear hb HI;have HI:=HJ;clear HJ;go_wp2_with fail;refine (se HI.out).mono ?_;rintro e w2 ⟨rfl,hI⟩;clear HI;have HI:=hid hI;clear hI;go_wp2_with fail;refine (sm HI.out).mono ?_;rintro e w2 ⟨rfl,hI⟩;clear HI;have HI:=hid hI;clear hI;go_wp2_with fail;refine (sk HI.out).mono ?_;rintro e w2 ⟨rfl,hI⟩;clear HI;have HI:=hid hI;clear hI;go_wp2_with fail;refine (tG HI.out).mono ?_;rintro e w2 ⟨rfl,hI⟩;clear HI;have HI:=hid hI;clear hI;go_wp2_with fail;refine (uz HI.out).mono ?_;rintro e w2 ⟨rfl,hI⟩;clear HI;have HI:=hid hI;clear hI;go_wp2_with fail;refine (sj HI.out).mono ?_;rintro e w2 ⟨rfl,hI⟩;clear HI;have HI:=hid hI;clear hI;go_wp2_with fail;refine (qO HI.out).mono ?_;rintro e w2 ⟨gq,rfl,hI⟩;clear HI;have HI:=hid hI;clear hI;go_wp2_with fail;refine (qR HI.out).mono ?_;rintro e w2 ⟨rfl,hI⟩;clear HI;have HI:=hid hI;clear hI;go_wp2_with fail;refine (qQ HI.out).mono ?_;rintro e w2 ⟨rfl,hI⟩;clear HI;have HI:=hid hI;clear hI;go_wp2_with fail;refine (lG _).mono ?_;rintro e w2 ⟨rfl,hb⟩;have HJ:=hid (AwI.post HI.out hb);clear hb HI;have HI:=HJ;clear HJ;go_wp2_with fail;refine (lH _).mono ?_;rintro e w2 ⟨rfl,hb⟩;have HJ:=hid (AwI.post HI.out hb);clear hb HI;have HI:=HJ;clear HJ;go_wp2_with fail;refine (si HI.out).mono ?_;rintro e w2 ⟨rfl,hI⟩;clear HI;have HI:=hid hI;clear hI;go_wp2_with fail;go_ret;exact ⟨rfl,HI.out.below⟩
end Go.Proofs.YtdmhbgpejppbkaaGreat
namespace Go.Proofs.YtdmhbgpejppbkaaGreat
open Go.ChangeShapes Go.WideShapes Go.ChangeAt Go.RowKit Go.Deep Go.Joins
section
variable {H:Type} {enc:TypeId × Value→H} {P:Program} {w:World} {base:Nat} {spare:Nat→Bool} {rK:Bool}
theorem gE {α:Type} {R:Nat→α→Prop}:∀ n,(∀ i,i<n→∃ x,R i x)→∃ xs:List α,xs.length=n∧∀ (i:Nat) (h:i<xs.length),R i xs[i]
 | 0,_=>⟨[],rfl,fun i h=>by simp at h⟩
 | n+1,h=>by
   obtain ⟨xs,hl,hx⟩:=gE n fun i hi=>h i (by omega)
   obtain ⟨y,hy⟩:=h n (by omega);refine ⟨xs ++ [y],by simp [hl],fun i hi=>?_⟩;simp at hi;by_cases e:i<xs.length
   ·rw [List.getElem_append_left e];exact hx i e
   ·have:i=xs.length:=by omega
    subst this;rw [List.getElem_append_right (by omega)];simpa [hl] using hy
theorem kM {α:Type} {f:α→List Value} {size:Nat} {a:Addr} {len c:Nat} {xs:List α} (hl:xs.length=len) (hp:0<size) (hsz:∀ x,(f x).length=size)
  (hc:∀ (i:Nat) (h:i<xs.length),∀ j u,(f xs[i])[j]?=some u→w.cell? (a.add (i * size+j))=some u) (hlt:0<len→a.block<w.heap.size):Sl f size w (.slice (some a) len c) xs:=by
 subst hl;refine ⟨some a,c,rfl,fun hne=>?_⟩;have h0:0<xs.length:=List.length_pos_iff.2 hne;have hj:0<(f xs[0]).length:=by rw [hsz];exact hp
 have h00:=hc 0 h0 0 _ (List.getElem?_eq_getElem hj);simp only [Nat.zero_mul,Nat.add_zero] at h00;have hs:a.spot=none:=World.cell?_spot (a:=a) (by simpa [Addr.add] using h00);obtain ⟨b,off,s⟩:=a;simp only at hs;subst hs;refine ⟨b,off,rfl,hlt h0,fun i x hx j u hu=>?_⟩;obtain ⟨hi,rfl⟩:=List.getElem?_eq_some_iff.1 hx;have:=hc i hi j u hu;unfold Addr.add at this
 split at this
 ·rename_i h;rw [show off+i * size+j=off from by omega];exact this
 ·rw [show off+i * size+j=off+(i * size+j) from by omega];exact this
end
end Go.Proofs.YtdmhbgpejppbkaaGreat
namespace Go.Proofs.YtdmhbgpejppbkaaGreat
open Go.ChangeShapes Go.WideShapes Go.ChangeAt Go.RowKit Go.Deep Go.Joins
section
variable {H:Type} {enc:TypeId × Value→H} {w:World}
theorem oO:Tryz.prog.cellsOf 3=1:=by kernel_rfl
theorem oN:Tryz.prog.cellsOf 9=1:=by kernel_rfl
theorem mD:Tryz.prog.cellsOf 4=1:=by kernel_rfl
theorem lB:Tryz.prog.cellsOf 30=1:=by kernel_rfl
theorem jH:Tryz.prog.cellsOf 32=5:=by kernel_rfl
theorem lZ {α:Type} {f:α→List Value} {size:Nat} {Q:α→Prop} {t e:TypeId} {fuel:Nat} {cs:List Value} {y:DataW H × List MemPlace} (ht:Tryz.prog.underlying t=some (.slice e)) (hC:Tryz.prog.cellsOf e=size) (hp:0<size) (hsz:∀ x,(f x).length=size)
  (hel:∀ (n:Nat) (cs':List Value) (z:DataW H × List MemPlace),DataW.trod enc Tryz.prog w 0 (fun _=>true) true n e cs'=some z→(∀ x ∈ z.2,x.block<w.heap.size)→∃ x:α,f x=cs'∧Q x)
  (h:DataW.trod enc Tryz.prog w 0 (fun _=>true) true fuel t cs=some y) (hlt:∀ x ∈ y.2,x.block<w.heap.size):∃ (v:Value) (xs:List α),cs=[v]∧Sl f size w v xs∧xs.length≤maxLen∧∀ x ∈ xs,Q x:=by
 rcases open_slice ht h with ⟨h0,_⟩ | ⟨a,len,cap,m,n,D,Pl,hcs,hb,hl,hm,hmm,hx,hi⟩
 ·exact ⟨_,[],h0,Sl.nil,Nat.zero_le _,fun x hx=>by cases hx⟩
 ·simp only [if_true] at hmm
  obtain ⟨xs,hxl,hR⟩:=gE (R:=fun i (x:α)=>(∀ j u,(f x)[j]?=some u→w.cell? (a.add (i * size+j))=some u)∧Q x) len (fun i hil=>by
   obtain ⟨cs',hc,ht'⟩:=hi i (by omega);rw [hC] at hc;obtain ⟨_,hcl,hat⟩:=World.cells?_some hc;obtain ⟨x,hfx,hq⟩:=hel n cs' _ ht' (fun z hz=>hlt z (by rw [hx];exact List.mem_append_right _ (List.mem_flatMap.2 ⟨i,List.mem_range.2 (by omega),hz⟩)));refine ⟨x,fun j u hu=>?_,hq⟩;rw [hfx] at hu;have hj:j<size:=by
    rcases Nat.lt_or_ge j cs'.length with h | h
    ·omega
    ·rw [List.getElem?_eq_none h] at hu;cases hu
   rw [← Go.Deep.add_add,hat j hj];exact hu)
  refine ⟨_,xs,hcs,kM hxl hp hsz (fun i h=>(hR i h).1) (fun h0=>?_),by omega,fun x hx'=>?_⟩
  ·refine hlt (.cell a.block a.off) ?_;rw [hx];refine List.mem_append_left _ ?_;rw [hC];exact List.mem_map.2 ⟨0,List.mem_range.2 (Nat.mul_pos (by omega) hp),rfl⟩
  ·obtain ⟨i,hi',rfl⟩:=List.getElem_of_mem hx';exact (hR i hi').2
theorem tq {n:Nat} {cs:List Value} {z:DataW H × List MemPlace} (h:DataW.trod enc Tryz.prog w 0 (fun _=>true) true n 32 cs=some z):∃ x:Ac × Value,uA x=cs∧∃ s l c,x.2=Value.slice s l c:=by
 obtain ⟨ys,n',-,-,hl,hyl,hg⟩:=DataW.trod_struct Tryz.underlying32 h;rw [jH] at hl
 match cs,hl with
 | [c0,c1,c2,c3,c4],_=>
   match ys,hyl with
   | [y0,y1,y2,y3,y4],_=>
     have g0:=hg 0 _ rfl;have g1:=hg 1 _ rfl;have g2:=hg 2 _ rfl;have g3:=hg 3 _ rfl;have g4:=hg 4 _ rfl;simp only [oO,oN,mD,lB,List.drop_zero,List.drop_succ_cons,List.take_succ_cons,List.take_zero,List.getElem?_cons_zero,List.getElem?_cons_succ,List.getElem_toArray,List.getElem_cons_zero,List.getElem_cons_succ] at g0 g1 g2 g3 g4;obtain ⟨q0,e0,-,-⟩:=DataW.trod_int Tryz.underlying3 g0;obtain ⟨q1,e1,-,-⟩:=DataW.trod_int Tryz.underlying3 g1;obtain ⟨q2,e2,-,-⟩:=DataW.trod_string Tryz.underlying9 g2;obtain ⟨q3,e3,-⟩:=DataW.trod_bool Tryz.underlying4 g3;have e4:∃ s l c,c4=Value.slice s l c:=by
      rcases open_slice Tryz.underlying30 g4 with ⟨h0,_⟩ | ⟨a,len,cap,m,n,D,Pl,hcs,-⟩
      ·exact ⟨_,_,_,(List.cons.inj h0).1⟩
      ·exact ⟨_,_,_,(List.cons.inj hcs).1⟩
     simp at e0 e1 e2 e3;subst e0 e1 e2 e3;exact ⟨(⟨q0,q1,bs q2,q3⟩,c4),rfl,e4⟩
end
theorem nS {H:Type} {enc:TypeId × Value→H} {w:World} {v:Value} {d:DataW H} {p:List MemPlace} (hv:∃ a len cap,v=.slice a len cap) (h:DataW.Trod enc Tryz.prog w 0 (fun _=>true) true 22 v d p) (hlt:∀ x ∈ p,x.block<w.heap.size):
  ∃ xs:List (Ac × Value),Sl uA 5 w v xs∧xs.length≤maxLen∧∀ x ∈ xs,∃ s l c,x.2=Value.slice s l c:=by
 obtain ⟨a0,len0,cap0,rfl⟩:=hv;obtain ⟨fuel,hf⟩:=h;obtain ⟨v1,xs1,e1,hs1,hl1,hq1⟩:=lZ (f:=uA) (size:=5) (Q:=fun x=>∃ s l c,x.2=Value.slice s l c) Tryz.underlying22 jH (by omega) sn (fun n cs' z hz _=>tq hz) hf hlt;simp [Value.cells] at e1;subst e1;exact ⟨xs1,hs1,hl1,hq1⟩
end Go.Proofs.YtdmhbgpejppbkaaGreat
