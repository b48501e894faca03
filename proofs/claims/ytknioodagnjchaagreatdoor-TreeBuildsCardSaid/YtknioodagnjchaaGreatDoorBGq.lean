/- Trees that are built of pairs, plain: groups of pairs and of pages, nodes laid on new pages. Trees that are built of pairs, plain: how pairs and pages are grouped. Trees that are built of pairs, plain: the level above; Build as a program. Trees that are built of pairs, plain: leaves; the whole of Build. cahierref08: Decode. cahierref08: Decode, walked. -/
import Derived.Test.YtknioodagnjchaaGreatDoorBGl
import Derived.Test.YtknioodagnjchaaGreatDoorBGp
import Derived.Deep.Cut
import Derived.Deep.CutRange
set_option maxRecDepth 100000
set_option maxHeartbeats 16000000
namespace Go.Proofs.YtknioodagnjchaaGreatDoor
open List renaming mem_append_right->Bt,mem_append_left->Bv,length_append->Bw,append_assoc->Bx,mem_cons_self->Bz,length_cons->BA,perm_append_comm->BB
def fL {α:Type} (T:α->By->Option By->List Pr->List Int->Prop):By->List By->Option By->List α->List Pr->List Int->Prop
 | lo,[],hi,[d],ps,gs=>T d lo hi ps gs
 | lo,k :: ks,hi,d :: ds,ps,gs=>∃ p1 p2 g1 g2,ps=p1 ++ p2/\gs=g1 ++ g2/\T d lo (some k) p1 g1/\fL T k ks hi ds p2 g2
 | _,_,_,_,_,_=>False
theorem qo {α:Type} {T T':α->By->Option By->List Pr->List Int->Prop}:∀ {ks:List By} {ds:List α} {lo:By} {hi:Option By} {ps:List Pr} {gs:List Int},(∀ d ∈ ds,∀ lo hi ps g,(∀ q ∈ g,q ∈ gs)->T d lo hi ps g->T' d lo hi ps g)->fL T lo ks hi ds ps gs->fL T' lo ks hi ds ps gs
 | [],[],_,_,_,_,_,h=>h.elim
 | [],[d],_,_,_,_,hm,h=>hm d Bz _ _ _ _ (fun _ h=>h) h
 | [],_ :: _ :: _,_,_,_,_,_,h=>h.elim
 | k :: ks,[],_,_,_,_,_,h=>h.elim
 | k :: ks,d :: ds,_,_,_,_,hm,h=>by
   obtain ⟨p1,p2,g1,g2,rfl,rfl,h1,h2⟩:=h;exact ⟨p1,p2,g1,g2,rfl,rfl,hm d Bz _ _ _ _ (fun q hq=>Bv _ hq) h1,qo (fun d hd lo hi ps g hg=>hm d (List.mem_cons_of_mem _ hd) lo hi ps g fun q hq=>Bt _ (hg q hq)) h2⟩
theorem pA {α:Type} {T:α->By->Option By->List Pr->List Int->Prop}:∀ {ks:List By} {ds:List α} {lo:By} {hi:Option By} {ps:List Pr} {gs:List Int},fL T lo ks hi ds ps gs->ds.length=ks.length+1
 | [],[],_,_,_,_,h=>h.elim
 | [],[d],_,_,_,_,_=>rfl
 | [],_ :: _ :: _,_,_,_,_,h=>h.elim
 | k :: ks,[],_,_,_,_,h=>h.elim
 | k :: ks,d :: ds,_,_,_,_,h=>by
   obtain ⟨_,_,_,_,_,_,_,h⟩:=h;simp [pA h]
theorem qV {T:TP}:∀ {a:List By} {c:List Int} {k:By} {b:List By} {e:List Int} {lo:By} {hi:Option By} {ps:List Pr} {gs:List Int},c.length=a.length+1->cO T lo (a ++ k :: b) hi (c ++ e) ps gs->
  ∃ p1 p2 g1 g2,ps=p1 ++ p2/\gs=g1 ++ g2/\cO T lo a (some k) c p1 g1/\cO T k b hi e p2 g2
 | [],[d],k,b,e,lo,hi,ps,gs,_,h=>by
   obtain ⟨p1,p2,g1,g2,hp,hg,h1,h2⟩:=h;exact ⟨p1,p2,g1,g2,hp,hg,h1,h2⟩
 | [],[],_,_,_,_,_,_,_,hl,_=>by simp at hl
 | [],_ :: _ :: _,_,_,_,_,_,_,_,hl,_=>by simp at hl
 | x :: a,[],_,_,_,_,_,_,_,hl,_=>by simp at hl
 | x :: a,d :: c,k,b,e,lo,hi,ps,gs,hl,h=>by
   obtain ⟨p1,p2,g1,g2,rfl,rfl,h1,h2⟩:=h;obtain ⟨q1,q2,r1,r2,rfl,rfl,h3,h4⟩:=qV (by simpa using hl) h2;exact ⟨p1 ++ q1,q2,g1 ++ r1,r2,by simp,by simp,⟨p1,q1,g1,r1,rfl,rfl,h1,h3⟩,h4⟩
def sV (B:Int->By) (d:Nat) (n:Nd) (lo:By) (hi:Option By) (ps:List Pr) (gs:List Int):Prop:=aU B d n lo hi ps gs/\(aw n).length<=232/\(d≠0->n.keys≠[])/\ps≠[]
theorem sg {B B':Int->By} {d:Nat} {n:Nd} {lo:By} {hi:Option By} {ps:List Pr} {gs:List Int} (h:sV B d n lo hi ps gs) (hb:∀ q ∈ gs,B' q=B q):sV B' d n lo hi ps gs:=⟨bV d h.1 hb,h.2⟩
def fQ:List Nd->List Int->Pro (List Int)
 | [],acc=>.pure acc
 | n :: r,acc=>.new fun q=>(aE q n).bind fun _=>fQ r (acc ++ [q])
theorem pM {s:Sf} {d:Nat} {n:Nd} {lo:By} {hi:Option By} {ps:List Pr} {gs X:List Int} (h:aU s.B d n lo hi ps gs) (h2:(aw n).length<=232) (h3:d≠0->n.keys≠[]) (hs:Hp s (gs ++ X)) (hr:(gs ++ X).length<4095):
  ∃ s' q,(∀ {α:Type} (k:Int->Pro α),(Pro.new fun q=>(aE q n).bind fun _=>k q).run s=(k q).run s')/\q ∉ gs ++ X/\Hp s' (q :: (gs ++ X))/\Kp (gs ++ X) s s'/\dO (s'.B q)=some n/\aU s'.B d n lo hi ps gs:=by
 obtain ⟨q,s1,n1,n2,n3,n4⟩:=hs.new hr;have hnd:=hs.nd;have hg:aD n=true:=fY h ((List.nodup_append.1 hnd).1) (fun q hq=>hs.pg (Bv _ hq)) h3;obtain ⟨w1,w2,w3⟩:=dN hg h2 n3 (p:=q) Bz;have hk:=n4.trans (gN (d:=aK (aw n)) n2);refine ⟨_,q,fun k=>?_,n2,w2,hk,w3,bV d h fun x hx=>hk.b x (Bv _ hx)⟩;rw [n1,ah w1]
theorem qT {d:Nat} {hi:Option By}:∀ {ns:List Nd} {ks:List By} {lo:By} {ps:List Pr} {gs X:List Int} {s:Sf} (acc:List Int),fL (sV s.B d) lo ks hi ns ps gs->Hp s (gs ++ X)->(gs ++ X).length+ns.length<=4095->
  ∃ s' qs gs',(fQ ns acc).run s=(s',.ok (acc ++ qs))/\qs.length=ns.length/\cO (iD s'.B d) lo ks hi qs ps gs'/\Hp s' (gs' ++ X)/\gs'.length=gs.length+ns.length/\Kp X s s'
 | [],[],_,_,_,_,_,_,h,_,_=>h.elim
 | [],_ :: _,_,_,_,_,_,_,h,_,_=>h.elim
 | [n],[],lo,ps,gs,X,s,acc,h,hs,hr=>by
   obtain ⟨s',q,h1,h2,h3,h4,h5,h6⟩:=pM h.1 h.2.1 h.2.2.1 hs (by simp only [Bw,BA,List.length_nil] at hr ⊢;omega);refine ⟨s',[q],q :: gs,?_,rfl,⟨h.2.2.2,n,gs,h5,rfl,h6⟩,h3,by simp,h4.sub fun p hp=>Bt _ hp⟩;unfold fQ;rw [h1];rfl
 | [_],_ :: ks,_,_,_,_,_,_,h,_,_=>by
   obtain ⟨_,_,_,_,_,_,_,h⟩:=h;cases ks <;> exact h.elim
 | _ :: _ :: _,[],_,_,_,_,_,_,h,_,_=>h.elim
 | n :: n2 :: ns,k :: ks,lo,ps,gs,X,s,acc,h,hs,hr=>by
   obtain ⟨p1,p2,g1,g2,rfl,rfl,h1,h2⟩:=h;have hs1:Hp s (g1 ++ (g2 ++ X)):=by rw [<- Bx];exact hs
   simp only [Bw,BA] at hr;obtain ⟨s1,q,r1,r2,r3,r4,r5,r6⟩:=pM h1.1 h1.2.1 h1.2.2.1 hs1 (by simp only [Bw];omega);have hrow:fL (sV s1.B d) k ks hi (n2 :: ns) p2 g2:=qo (fun n _ lo hi ps g hg hn=>sg hn fun x hx=>r4.b x (Bt _ (Bv _ (hg x hx)))) h2;have hs2:Hp s1 (g2 ++ ((q :: g1) ++ X)):=r3.perm (by
    rw [List.cons_append];refine List.Perm.trans ?_ (List.perm_middle (a:=q) (l₁:=g2) (l₂:=g1 ++ X)).symm;refine List.Perm.cons _ ?_;rw [<- Bx,<- Bx];exact List.Perm.append_right _ BB)
   obtain ⟨s2,qs,gs',t1,t2,t3,t4,t5,t6⟩:=qT (acc ++ [q]) hrow hs2 (by simp only [Bw,BA] at hr ⊢;omega);refine ⟨s2,q :: qs,(q :: g1) ++ gs',?_,by simp [t2],⟨p1,p2,q :: g1,gs',rfl,rfl,⟨h1.2.2.2,n,g1,?_,rfl,?_⟩,t3⟩,?_,by simp [t5];omega,?_⟩
   ·unfold fQ;rw [r1,t1];simp
   ·rw [t6.b q (by simp)];exact r5
   ·exact bV d r6 fun x hx=>t6.b x (by simp [hx])
   ·refine t4.perm ?_;rw [<- Bx];exact List.Perm.append_right _ BB
   ·exact (r4.sub fun p hp=>Bt _ (Bt _ hp)).trans (t6.sub fun p hp=>Bt _ hp)
end Go.Proofs.YtknioodagnjchaaGreatDoor
namespace Go.Proofs.YtknioodagnjchaaGreatDoor
open List renaming mem_cons_self->Bt,mem_cons_of_mem->Bv,mem_map_of_mem->Bw,mem_append_right->Bx,mem_append_left->Bz,take_left'->BA,drop_left'->BB
def cR (G:List (Int × By)):Nd:=⟨false,(G.map (·.2)).tail,[],G.map (·.1)⟩
def aW (G:List (By × Ce)):Nd:=⟨true,G.map (·.1),G.map (·.2),[]⟩
def iH (G:List (Int × By)):By:=(G.map (·.2)).headD []
def rG (G:List (By × Ce)):By:=(G.map (·.1)).headD []
def dp {α:Type} (mk:List α->Nd):List α->List (List α)->List α->List (List α)
 | [],done,cur=>done ++ [cur]
 | x :: r,done,cur=>if bw (mk (cur ++ [x])) then dp mk r done (cur ++ [x]) else dp mk r (done ++ [cur]) [x]
section
variable {α:Type} {mk:List α->Nd}
theorem jg:∀ (r:List α) (done:List (List α)) (cur:List α),(dp mk r done cur).flatten=done.flatten ++ (cur ++ r)
 | [],done,cur=>by simp [dp]
 | x :: r,done,cur=>by
   unfold dp
   split
   ·rw [jg];simp
   ·rw [jg];simp
theorem iz {P:List α->Prop} (hf:∀ G x,bw (mk (G ++ [x]))=true->P (G ++ [x])) (h1:∀ x,P [x]):∀ (r:List α) (done:List (List α)) (cur:List α),(∀ G ∈ done,P G)->P cur->∀ G ∈ dp mk r done cur,P G
 | [],done,cur,hd,hc,G,hG=>by
   rcases List.mem_append.1 hG with h | h
   ·exact hd G h
   ·rw [List.mem_singleton.1 h];exact hc
 | x :: r,done,cur,hd,hc,G,hG=>by
   unfold dp at hG
   split at hG
   ·rename_i h
    exact iz hf h1 r done _ hd (hf cur x h) G hG
   ·refine iz hf h1 r _ _ (fun G h=>?_) (h1 x) G hG;rcases List.mem_append.1 h with h | h
    ·exact hd G h
    ·rw [List.mem_singleton.1 h];exact hc
theorem na {Q:List α->Prop} (hf:∀ G x,bw (mk (G ++ [x]))=false->Q G):∀ (r:List α) (done:List (List α)) (cur:List α),(∀ G ∈ done,Q G)->∃ d l,dp mk r done cur=d ++ [l]/\∀ G ∈ d,Q G
 | [],done,cur,hd=>⟨done,cur,rfl,hd⟩
 | x :: r,done,cur,hd=>by
   unfold dp
   split
   ·exact na hf r done _ hd
   ·rename_i h
    refine na hf r _ _ fun G hG=>?_
    rcases List.mem_append.1 hG with hG | hG
    ·exact hd G hG
    ·rw [List.mem_singleton.1 hG];exact hf cur x (by simpa using h)
theorem pz {β:Type} (f:α->β) {T:β->By->Option By->List Pr->List Int->Prop}:∀ {ks:List By} {ds:List α} {lo:By} {hi:Option By} {ps:List Pr} {gs:List Int},fL (fun d=>T (f d)) lo ks hi ds ps gs->fL T lo ks hi (ds.map f) ps gs
 | [],[],_,_,_,_,h=>h.elim
 | [],[_],_,_,_,_,h=>h
 | [],_ :: _ :: _,_,_,_,_,h=>h.elim
 | _ :: _,[],_,_,_,_,h=>h.elim
 | k :: ks,d :: ds,_,_,_,_,h=>by
   obtain ⟨p1,p2,g1,g2,e1,e2,h1,h2⟩:=h;exact ⟨p1,p2,g1,g2,e1,e2,h1,pz f h2⟩
end
theorem jG {T:TP} {hi:Option By}:∀ {gl:List (List (Int × By))} {lo:By} {ps:List Pr} {gs:List Int},gl≠[]->(∀ G ∈ gl,G≠[])->cO T lo (gl.flatten.map (·.2)).tail hi (gl.flatten.map (·.1)) ps gs->
  fL (fun G lo hi ps gs=>cO T lo (G.map (·.2)).tail hi (G.map (·.1)) ps gs) lo (gl.map iH).tail hi gl ps gs
 | [],_,_,_,h,_,_=>absurd rfl h
 | [G],lo,ps,gs,_,_,h=>by simpa [fL] using h
 | G :: G2 :: r,lo,ps,gs,_,hne,h=>by
   obtain ⟨y,G',rfl⟩:∃ y G',G=y :: G':=by
    cases G with
    | nil=>exact absurd rfl (hne _ Bt)
    | cons y G'=>exact ⟨y,G',rfl⟩
   obtain ⟨z,Z,rfl⟩:∃ z Z,G2=z :: Z:=by
    cases G2 with
    | nil=>exact absurd rfl (hne _ (Bv _ Bt))
    | cons z Z=>exact ⟨z,Z,rfl⟩
   have e1:(((y :: G') :: (z :: Z) :: r).flatten.map (·.2)).tail=G'.map (·.2) ++ z.2 :: (((z :: Z) :: r).flatten.map (·.2)).tail:=by simp
   have e2:((y :: G') :: (z :: Z) :: r).flatten.map (·.1)=(y :: G').map (·.1) ++ ((z :: Z) :: r).flatten.map (·.1):=by simp
   rw [e1,e2] at h;obtain ⟨p1,p2,g1,g2,rfl,rfl,h1,h2⟩:=qV (by simp) h;exact ⟨p1,p2,g1,g2,rfl,rfl,h1,jG (by simp) (fun G hG=>hne G (Bv _ hG)) h2⟩
theorem od {B:Int->By} {hi:Option By}:∀ {gl:List (List (By × Ce))} {lo:By} {ps:List Pr} {gs:List Int},gl≠[]->(∀ G ∈ gl,G≠[])->(∀ x ∈ gl.flatten,wD lo hi x.1/\x.1.length<=64)->(gl.flatten.map (·.1)).Pairwise (fun a b=>bM a b=true)->
  cY B (gl.flatten.map (·.1)) (gl.flatten.map (·.2)) ps gs->
  fL (fun G lo hi ps gs=>aU B 0 (aW G) lo hi ps gs/\ps≠[]) lo (gl.map rG).tail hi gl ps gs
 | [],_,_,_,h,_,_,_,_=>absurd rfl h
 | [G],lo,ps,gs,_,hne,hin,hpw,h=>by
   simp only [List.flatten_cons,List.flatten_nil,List.append_nil] at hin hpw h;obtain ⟨hk,-,-⟩:=bY h;refine ⟨⟨rfl,rfl,rises_pw.2 ⟨fun k hk=>?_,hpw⟩,fun k hk=>?_,h⟩,?_⟩
   ·obtain ⟨x,hx,rfl⟩:=List.mem_map.1 hk;exact (hin x hx).2
   ·obtain ⟨x,hx,rfl⟩:=List.mem_map.1 hk;exact (hin x hx).1
   ·rintro rfl;simp at hk;exact hne G Bt hk
 | G :: G2 :: r,lo,ps,gs,_,hne,hin,hpw,h=>by
   obtain ⟨z,Z,rfl⟩:∃ z Z,G2=z :: Z:=by
    cases G2 with
    | nil=>exact absurd rfl (hne _ (Bv _ Bt))
    | cons z Z=>exact ⟨z,Z,rfl⟩
   have e1:(G :: (z :: Z) :: r).flatten=G ++ ((z :: Z) :: r).flatten:=by simp
   rw [e1] at hin hpw h;simp only [List.map_append] at hpw h;obtain ⟨p1,p2,g1,g2,rfl,rfl,h1,h2⟩:=iB G.length h;rw [BA (by simp),BA (by simp)] at h1;rw [BB (by simp),BB (by simp)] at h2;obtain ⟨q1,q2,q3⟩:=List.pairwise_append.1 hpw;have hzm:z ∈ ((z :: Z) :: r).flatten:=by simp
   have hz:=hin z (Bx _ hzm);obtain ⟨hk,-,-⟩:=bY h1;refine ⟨p1,p2,g1,g2,rfl,rfl,⟨⟨rfl,rfl,rises_pw.2 ⟨fun k hk=>?_,q1⟩,fun k hk=>?_,h1⟩,?_⟩,?_⟩
   ·obtain ⟨x,hx,rfl⟩:=List.mem_map.1 hk;exact (hin x (Bz _ hx)).2
   ·obtain ⟨x,hx,rfl⟩:=List.mem_map.1 hk;refine ⟨(hin x (Bz _ hx)).1.1,fun h e=>?_⟩;injection e with e
    subst e;exact q3 x.1 (Bw hx) z.1 (Bw hzm)
   ·rintro rfl;simp at hk;exact hne G Bt hk
   ·refine od (by simp) (fun G hG=>hne G (Bv _ hG)) (fun x hx=>?_) q2 h2;have hx2:=hin x (Bx _ hx);refine ⟨⟨?_,hx2.1.2⟩,hx2.2⟩;have hx3:x=z\/x ∈ Z ++ r.flatten:=by simpa using hx
    rcases hx3 with rfl | hx3
    ·exact eG _
    ·have:((z :: Z) :: r).flatten=z :: (Z ++ r.flatten):=by simp
     rw [this,List.map_cons] at q2;exact aL ((List.pairwise_cons.1 q2).1 x.1 (Bw hx3))
end Go.Proofs.YtknioodagnjchaaGreatDoor
namespace Go.Proofs.YtknioodagnjchaaGreatDoor
open List renaming mem_cons_self->Bt,length_cons->Bv,length_append->Bw,nil_append->Bx,mem_cons_of_mem->Bz,singleton_append->BA,map_cons->BB,mem_append_left->BC,length_map->BD,mem_map_of_mem->BE,sublist_append_right->BF,flatten_cons->BG,append_assoc->BH,sublist_append_left->BI,reverse_nil->BJ,take_append_drop->BK,reverse_append->BL,zip_cons_cons->BM,reverse_cons->BN,not_mem_nil->BO,length_drop->BP,map_fst_zip->BQ,map_snd_zip->BR,length_nil->BS,tail_cons->BT
def iy (gl:List (List (Int × By))):List (List (Int × By)):=match gl.reverse with
 | [y] :: b :: r=>r.reverse ++ [b.take (b.length - 1),b.drop (b.length - 1) ++ [y]]
 | _=>gl
def dq (L:List (Int × By)):List (List (Int × By)):=iy (dp cR L.tail [] (L.take 1))
def kb (G:List (Int × By)):Nat:=eA (G.map (·.2)).tail
theorem wu {ks:List By} (h:∀ k ∈ ks,k.length<=64):eA ks<=69 * ks.length:=by
 induction ks with
 | nil=>simp [eA]
 | cons k ks ih=>
   have:=ih fun x hx=>h x (Bz _ hx)
   have:=dI (h k Bt);have:=h k Bt;rw [fq,Bv];omega
theorem tf {α:Type} {T:α->By->Option By->List Pr->List Int->Prop}:∀ {ks:List By} {ds:List α} {lo:By} {hi:Option By} {ps:List Pr} {gs:List Int},fL T lo ks hi ds ps gs->∀ d ∈ ds,∃ lo hi ps' gs',T d lo hi ps' gs'/\gs'.Sublist gs
 | [],[],_,_,_,_,h,_,_=>h.elim
 | [],[d],lo,hi,ps,gs,h,x,hx=>⟨lo,hi,ps,gs,by rw [List.mem_singleton.1 hx];exact h,List.Sublist.refl _⟩
 | [],_ :: _ :: _,_,_,_,_,h,_,_=>h.elim
 | _ :: _,[],_,_,_,_,h,_,_=>h.elim
 | k :: ks,d :: ds,lo,hi,_,_,h,x,hx=>by
   obtain ⟨p1,p2,g1,g2,rfl,rfl,h1,h2⟩:=h;rcases List.mem_cons.1 hx with rfl | hx
   ·exact ⟨lo,some k,p1,g1,h1,BI _ _⟩
   ·obtain ⟨lo',hi',p',g',h3,h4⟩:=tf h2 x hx;exact ⟨lo',hi',p',g',h3,h4.trans (BF _ _)⟩
theorem kI {α:Type} {T T':α->By->Option By->List Pr->List Int->Prop}:∀ {ks:List By} {ds:List α} {lo:By} {hi:Option By} {ps:List Pr} {gs:List Int},(∀ d ∈ ds,∀ lo hi ps g,g.Sublist gs->T d lo hi ps g->T' d lo hi ps g)->fL T lo ks hi ds ps gs->fL T' lo ks hi ds ps gs
 | [],[],_,_,_,_,_,h=>h.elim
 | [],[d],_,_,_,_,hm,h=>hm d Bt _ _ _ _ (List.Sublist.refl _) h
 | [],_ :: _ :: _,_,_,_,_,_,h=>h.elim
 | _ :: _,[],_,_,_,_,_,h=>h.elim
 | k :: ks,d :: ds,_,_,_,_,hm,h=>by
   obtain ⟨p1,p2,g1,g2,rfl,rfl,h1,h2⟩:=h;exact ⟨p1,p2,g1,g2,rfl,rfl,hm d Bt _ _ _ _ (BI _ _) h1,kI (fun d hd lo hi ps g hg=>hm d (Bz _ hd) lo hi ps g (hg.trans (BF _ _))) h2⟩
theorem wM {n:Nd} (h:aD n=false):bw n=true:=by unfold bw bf iP;rw [h];simp
theorem mq {G:List (Int × By)} {x:Int × By} (h:bw (cR (G ++ [x]))=false):3<=G.length:=by
 cases hg:aD (cR (G ++ [x])) with
 | false=>rw [wM hg] at h;cases h
 | true=>
   have h2:¬ bo (cR (G ++ [x]))<=capN (cR (G ++ [x])):=fun hb=>by
    rw [(eB hg).2 hb] at h;cases h
   have hr:aH (cR (G ++ [x])).keys=true:=by unfold aD at hg;rw [Bool.and_eq_true] at hg;exact hg.1
   have h3:=wu (bQ hr);have h4:bo (cR (G ++ [x]))=eA (cR (G ++ [x])).keys:=rfl;have h5:capN (cR (G ++ [x]))=225:=rfl;have h6:(cR (G ++ [x])).keys.length=G.length:=by simp [cR]
   omega
theorem mY {B:Int->By} {d:Nat} {G:List (Int × By)} {lo:By} {hi:Option By} {ps:List Pr} {gs:List Int} (h:cO (iD B d) lo (G.map (·.2)).tail hi (G.map (·.1)) ps gs) (h2:2<=G.length) (hk:∀ x ∈ G,x.2.length<=64) (hn:gs.Nodup) (hp:∀ q ∈ gs,cI q=true):
  aU B (d+1) (cR G) lo hi ps gs/\aD (cR G)=true/\(cR G).keys≠[]:=by
 have h3:aU B (d+1) (cR G) lo hi ps gs:=node_succ.2 ⟨rfl,rfl,fun k hk'=>by
  obtain ⟨x,hx,rfl⟩:=List.mem_map.1 (List.mem_of_mem_tail hk');exact hk x hx,h⟩
 have h4:(cR G).keys≠[]:=by
  intro e;have:(cR G).keys.length=G.length - 1:=by simp [cR]
  rw [e] at this;simp at this;omega
 exact ⟨h3,fY h3 hn hp (fun _=>h4),h4⟩
theorem uJ {gl:List (List (Int × By))} {d:List (List (Int × By))} {l:List (Int × By)} (e:gl=d ++ [l]) (hd:∀ G ∈ d,3<=G.length) (hl:l≠[]) (h2:2<=gl.flatten.length) (hk:∀ G ∈ gl,kb G<=225) (h64:∀ x ∈ gl.flatten,x.2.length<=64):
  (iy gl).flatten=gl.flatten/\(∀ G ∈ iy gl,2<=G.length/\kb G<=225):=by
 subst e;unfold iy;rw [BL];simp only [BN,BJ,Bx,BA];rcases List.eq_nil_or_concat d with rfl | ⟨d',b,rfl⟩
 ·simp only [BJ,Bx] at *;have hl2:2<=l.length:=by simpa using h2
  refine ⟨by first | trivial | rfl,fun G hG=>?_⟩;have hG:G ∈ [l]:=hG;rw [List.mem_singleton.1 hG];exact ⟨hl2,hk l (by simp)⟩
 ·rw [List.concat_eq_append] at hd h2 hk h64 ⊢;rw [BL];simp only [BN,BJ,Bx,BA];have hb3:3<=b.length:=hd b (by simp);have hbk:kb b<=225:=hk b (by simp)
  match l,hl with
  | [y],_=>
    simp only [List.reverse_reverse];refine ⟨?_,fun G hG=>?_⟩
    ·simp only [List.flatten_append,BG,List.flatten_nil,List.append_nil,BH];rw [<- BH (b.take _),BK]
    ·rcases List.mem_append.1 hG with hG | hG
     ·exact ⟨by have:=hd G (by simp [hG]);omega,hk G (by simp [hG])⟩
     ·simp only [List.mem_cons,BO,or_false] at hG;rcases hG with rfl | rfl
      ·refine ⟨by rw [List.length_take];omega,?_⟩;refine Nat.le_trans ?_ hbk;unfold kb;obtain ⟨x,b',rfl⟩:∃ x b',b=x :: b':=by
        cases b with
        | nil=>simp at hb3
        | cons x b'=>exact ⟨x,b',rfl⟩
       simp only [Bv] at hb3;rw [show (x :: b').length - 1=(b'.length - 1)+1 by simp only [Bv];omega,List.take_succ_cons];simp only [BB,BT];have e:b'.map (·.2)=(b'.take (b'.length - 1)).map (·.2) ++ (b'.drop (b'.length - 1)).map (·.2):=by rw [<- List.map_append,BK]
       rw [e,fv];omega
      ·refine ⟨by simp only [Bw,BP,Bv,BS];omega,?_⟩;have hy:y.2.length<=64:=h64 y (by simp);have e:(b.drop (b.length - 1)).length=1:=by rw [BP];omega
       obtain ⟨z,hz⟩:=List.length_eq_one_iff.1 e;rw [hz];unfold kb;simp only [BB,List.map_nil,BA,BT];have:=dI hy;simp [eA];omega
  | y :: y2 :: l',_=>
    refine ⟨rfl,fun G hG=>?_⟩;have hG:G ∈ d' ++ [b] ++ [y :: y2 :: l']:=hG;refine ⟨?_,hk G hG⟩;rcases List.mem_append.1 hG with hG | hG
    ·have:=hd G hG;omega
    ·rw [List.mem_singleton.1 hG];simp
theorem nb {α:Type}:∀ {gl:List (List α)},(∀ G ∈ gl,2<=G.length)->2 * gl.length<=gl.flatten.length
 | [],_=>by simp
 | G :: gl,h=>by
   have:=nb (gl:=gl) fun x hx=>h x (Bz _ hx)
   have:=h G Bt;simp only [Bv,BG,Bw];omega
theorem vo {B:Int->By} {d:Nat} {L:List (Int × By)} {lo:By} {hi:Option By} {ps:List Pr} {gs:List Int} (h:cO (iD B d) lo (L.map (·.2)).tail hi (L.map (·.1)) ps gs) (h2:2<=L.length) (hk:∀ x ∈ L,x.2.length<=64) (hn:gs.Nodup) (hp:∀ q ∈ gs,cI q=true):
  fL (sV B (d+1)) lo ((dq L).map iH).tail hi ((dq L).map cR) ps gs/\2 * (dq L).length<=L.length/\(dq L).flatten=L/\∀ G ∈ dq L,G≠[]:=by
 obtain ⟨x0,L',rfl⟩:∃ x0 L',L=x0 :: L':=by
  cases L with
  | nil=>simp at h2
  | cons x L'=>exact ⟨x,L',rfl⟩
 have hfl:(dp cR L' [] [x0]).flatten=x0 :: L':=by rw [jg];simp
 obtain ⟨dn,l,e,hd⟩:=na (mk:=cR) (Q:=fun G=>3<=G.length) (fun G x hf=>mq hf) L' [] [x0] (by simp);have hne:∀ G ∈ dp cR L' [] [x0],G≠[]:=iz (P:=fun G=>G≠[]) (fun G x _=>by simp) (fun x=>by simp) L' [] [x0] (by simp) (by simp);have hfit:∀ G ∈ dp cR L' [] [x0],G.length=1\/bw (cR G)=true:=iz (P:=fun G=>G.length=1\/bw (cR G)=true) (fun G x hf=>.inr hf) (fun x=>.inl rfl) L' [] [x0] (by simp) (.inl rfl);have hg0:dp cR L' [] [x0]≠[]:=by rw [e];simp
 have hrow:=jG hg0 hne (by rw [hfl];exact h)
 have hkb:∀ G ∈ dp cR L' [] [x0],kb G<=225:=fun G hG=>by
  rcases hfit G hG with h1 | h1
  ·obtain ⟨z,rfl⟩:=List.length_eq_one_iff.1 h1;simp [kb,eA]
  ·by_cases hg2:2<=G.length
   ·obtain ⟨lo',hi',p',g',h3,h4⟩:=tf hrow G hG;obtain ⟨-,h5,-⟩:=mY h3 hg2 (fun x hx=>hk x (by rw [<- hfl];exact List.mem_flatten.2 ⟨G,hG,hx⟩)) (hn.sublist h4) (fun q hq=>hp q (h4.subset hq));exact (eB h5).1 h1
   ·have:=List.length_pos_iff.2 (hne G hG);obtain ⟨z,rfl⟩:=List.length_eq_one_iff.1 (show G.length=1 by omega);simp [kb,eA]
 obtain ⟨f1,f2⟩:=uJ e hd (hne l (by rw [e];simp)) (by rw [hfl];exact h2) hkb (by rw [hfl];exact hk);rw [hfl] at f1;have ha:dq (x0 :: L')=iy (dp cR L' [] [x0]):=rfl;rw [ha];have hne2:∀ G ∈ iy (dp cR L' [] [x0]),G≠[]:=fun G hG e=>by have:=(f2 G hG).1;rw [e] at this;simp at this
 have hg1:iy (dp cR L' [] [x0])≠[]:=fun e=>by rw [e] at f1;simp at f1
 have hrow2:=jG hg1 hne2 (by rw [f1];exact h);refine ⟨pz cR (kI (fun G hG lo' hi' p' g' hg' hT=>?_) hrow2),by have:=nb fun G hG=>(f2 G hG).1;rw [f1] at this;exact this,f1,hne2⟩;obtain ⟨i1,i2,i3⟩:=mY hT (f2 G hG).1 (fun x hx=>hk x (by rw [<- f1];exact List.mem_flatten.2 ⟨G,hG,hx⟩)) (hn.sublist hg') (fun q hq=>hp q (hg'.subset hq));exact ⟨i1,(cU i2).2 (f2 G hG).2,fun _=>i3,(fp (gp B d) hT).1⟩
def ew:Nat->List Nd->List By->Pro Int
 | 0,_,_=>.fail 99
 | f+1,ns,hs=>(fQ ns []).bind fun ps=>if ps.length=1 then .pure (ps.getD 0 0) else ew f ((dq (ps.zip hs)).map cR) ((dq (ps.zip hs)).map iH)
theorem lG:∀ (f:Nat) {d:Nat} {ns:List Nd} {hs:List By} {ps:List Pr} {gs X:List Int} {s:Sf},fL (sV s.B d) [] hs.tail none ns ps gs->hs.length=ns.length->(∀ h ∈ hs,h.length<=64)->Hp s (gs ++ X)->gs.length+2 * ns.length<=wt ps->wt ps+X.length<=4095->ns.length<2 ^ f->
  ∃ s' q d' gs',(ew f ns hs).run s=(s',.ok q)/\Tr s'.B d' q ps gs'/\Hp s' (gs' ++ X)/\Kp X s s'
 | 0,d,ns,hs,ps,gs,X,s,h,hl,_,_,_,_,hf=>by
   have:=pA h;simp at hf;rw [hf] at this;simp at this
 | f+1,d,ns,hs,ps,gs,X,s,h,hl,h64,hp,hw,hx,hf=>by
   obtain ⟨s1,qs,g1,r1,r2,r3,r4,r5,r6⟩:=qT [] h hp (by simp only [Bw];omega);simp only [Bx] at r1;have hn:=pA h;by_cases h1:qs.length=1
   ·obtain ⟨q,rfl⟩:=List.length_eq_one_iff.1 h1;have ht:hs.tail=[]:=by
     have:hs.tail.length=0:=by rw [List.length_tail];have:=r2;simp only [Bv,BS] at this;omega
     exact List.eq_nil_of_length_eq_zero this
    rw [ht] at r3;refine ⟨s1,q,d,g1,?_,r3.2,r4,r6⟩;unfold ew;rw [ah r1];rfl
   ·have hz1:(qs.zip hs).map (·.1)=qs:=BQ (by omega);have hz2:(qs.zip hs).map (·.2)=hs:=BR (by omega);have hzl:(qs.zip hs).length=qs.length:=by simp;omega
    have hL:∀ x ∈ qs.zip hs,x.2.length<=64:=fun x hx=>h64 x.2 (by rw [<- hz2];exact BE hx)
    obtain ⟨a1,a2,a3,a4⟩:=vo (L:=qs.zip hs) (by rw [hz1,hz2];exact r3) (by omega) hL ((List.nodup_append.1 r4.nd).1) (fun q hq=>r4.pg (BC _ hq))
    obtain ⟨s2,q,d',g2,t1,t2,t3,t4⟩:=lG f a1 (by simp) (fun h hh=>by
     obtain ⟨G,hG,rfl⟩:=List.mem_map.1 hh;obtain ⟨x,G',rfl⟩:∃ x G',G=x :: G':=by
      cases G with
      | nil=>exact absurd rfl (a4 _ hG)
      | cons x G'=>exact ⟨x,G',rfl⟩
     exact hL x (by rw [<- a3];exact List.mem_flatten.2 ⟨_,hG,Bt⟩)) r4 (by rw [BD];omega) hx (by rw [BD];rw [Nat.pow_succ] at hf;omega)
    refine ⟨s2,q,d',g2,?_,t2,t3,r6.trans t4⟩;unfold ew;rw [ah r1,if_neg h1];exact t1
def ey:List Pr->List (List (By × Ce))->List (By × Ce)->Pro (List (List (By × Ce)))
 | [],done,cur=>.pure (done ++ [cur])
 | x :: r,done,cur=>(cy x.2).bind fun c=>if bw (aW (cur ++ [(x.1,c)])) then ey r done (cur ++ [(x.1,c)]) else ey r (done ++ [cur]) [(x.1,c)]
def eV (ps:List Pr):Pro Int:=(ey ps [] []).bind fun gl=>ew 20 (gl.map aW) (gl.map rG)
theorem qR:∀ {ps:List Pr} {X:List Int} {s:Sf} (done:List (List (By × Ce))) (cur:List (By × Ce)),(∀ p ∈ ps,p.2.length<=5000)->Hp s X->wt ps+X.length+23<=4095->
  ∃ s' cs gs,(ey ps done cur).run s=(s',.ok (dp aW ((ps.map (·.1)).zip cs) done cur))/\cY s'.B (ps.map (·.1)) cs ps gs/\Hp s' (gs ++ X)/\Kp X s s'/\gs.length+2 * ps.length=wt ps
 | [],X,s,done,cur,_,hs,_=>⟨s,[],[],rfl,⟨rfl,rfl⟩,hs,Kp.refl _ _,rfl⟩
 | x :: r,X,s,done,cur,hv,hs,hw=>by
   rw [dZ] at hw;obtain ⟨s1,c,g1,r1,r2,r3,r4,r5,r6⟩:=nu (hv x Bt) hs (by omega);have hv2:∀ p ∈ r,p.2.length<=5000:=fun p hp=>hv p (Bz _ hp)
   have hw2:wt r+(g1 ++ X).length+23<=4095:=by rw [Bw,r5];omega
   have key:∀ done' cur',∃ s' cs gs,(ey r done' cur').run s1=(s',.ok (dp aW ((r.map (·.1)).zip cs) done' cur'))/\cY s'.B ((x :: r).map (·.1)) (c :: cs) (x :: r) (g1 ++ gs)/\Hp s' (g1 ++ gs ++ X)/\Kp X s s'/\(g1 ++ gs).length+2 * (x :: r).length=wt (x :: r):=fun done' cur'=>by
    obtain ⟨s2,cs,g2,t1,t2,t3,t4,t5⟩:=qR done' cur' hv2 r2 hw2;refine ⟨s2,cs,g2,t1,⟨x.2,g1,r,g2,rfl,rfl,r4.congr fun q hq=>t4.b q (BC _ hq),t2⟩,t3.perm ?_,r3.trans (t4.sub fun q hq=>List.mem_append_right _ hq),?_⟩
    ·rw [<- BH];exact List.Perm.append_right _ List.perm_append_comm
    ·rw [dZ,Bw,Bv,r5];omega
   unfold ey;rw [ah r1];by_cases hf:bw (aW (cur ++ [(x.1,c)]))=true
   ·rw [if_pos hf];obtain ⟨s2,cs,g2,t1,t2,t3,t4,t5⟩:=key done (cur ++ [(x.1,c)]);refine ⟨s2,c :: cs,g1 ++ g2,?_,t2,t3,t4,t5⟩;rw [t1,BB,BM]
    conv=>rhs;unfold dp
    rw [if_pos hf]
   ·rw [if_neg hf];obtain ⟨s2,cs,g2,t1,t2,t3,t4,t5⟩:=key (done ++ [cur]) [(x.1,c)];refine ⟨s2,c :: cs,g1 ++ g2,?_,t2,t3,t4,t5⟩;rw [t1,BB,BM]
    conv=>rhs;unfold dp
    rw [if_neg hf]
theorem qS {k:By} {c:Ce} (hk:k.length<=64) (hc:aI c=true):aD (aW [(k,c)])=true/\(aw (aW [(k,c)])).length<=232:=by
 have hg:aD (aW [(k,c)])=true:=by unfold aD aW;simp [aH,hk,hc]
 refine ⟨hg,?_⟩;rw [gg hg];have h1:=dI hk;have h2:=nz hc;have h3:bo (aW [(k,c)])=(gE k).length+(gR c).length:=by simp [bo,aW,bC]
 rw [h3];simp only [aW,if_true];omega
theorem oY {ps:List Pr} {X:List Int} {s:Sf} (hv:∀ p ∈ ps,p.2.length<=5000) (hk:∀ p ∈ ps,p.1.length<=64) (hsr:zo ps) (hs:Hp s X) (hw:wt ps+X.length+60<=4095):
  ∃ s' q,(eV ps).run s=(s',.ok q)/\TS s' q ps X/\Kp X s s':=by
 cases hps:ps with
 | nil=> obtain ⟨s1,q,h1,h2,h3,h4,h5,h6⟩:=pM (s:=s) (d:=0) (n:=aW []) (lo:=[]) (hi:=none) (ps:=[]) (gs:=[]) (X:=X) ⟨rfl,rfl,rfl,fun _ h=>absurd h BO,rfl,rfl⟩ (by decide) (fun h=>absurd rfl h) hs (by simp only [Bx];omega);refine ⟨s1,q,?_,⟨0,[q],⟨aW [],[],h5,rfl,h6⟩,h3⟩,h4.sub fun p hp=>hp⟩;unfold eV ey;simp only [Pro.bind,Bx,BB,List.map_nil];unfold ew;rw [run_bind];unfold fQ;rw [h1];rfl
 | cons x r=>
   rw [<- hps];obtain ⟨s1,cs,g1,r1,r2,r3,r4,r5⟩:=qR [] [] hv hs (by omega);obtain ⟨c1,c2,c3⟩:=bY r2;have hz1:((ps.map (·.1)).zip cs).map (·.1)=ps.map (·.1):=BQ (by omega);have hz2:((ps.map (·.1)).zip cs).map (·.2)=cs:=BR (by omega);have hzl:((ps.map (·.1)).zip cs).length=ps.length:=by rw [List.length_zip,c2];simp
   have hfirst:∃ y L,(ps.map (·.1)).zip cs=y :: L:=by
    cases hL:(ps.map (·.1)).zip cs with
    | nil=>rw [hL,hps] at hzl;simp at hzl
    | cons y L=>exact ⟨y,L,rfl⟩
   obtain ⟨y,L,hL⟩:=hfirst
   have hmem:∀ z ∈ (ps.map (·.1)).zip cs,z.1.length<=64/\aI z.2=true:=fun z hz=>by
    have h1:z.1 ∈ ps.map (·.1):=by rw [<- hz1];exact BE hz
    have h2:z.2 ∈ cs:=by rw [<- hz2];exact BE hz
    obtain ⟨p,hp,e⟩:=List.mem_map.1 h1;exact ⟨by rw [<- e];exact hk p hp,c3 _ h2⟩
   have hgap:dp aW ((ps.map (·.1)).zip cs) [] []=dp aW L [] [y]:=by
    rw [hL];have hy:=hmem y (by rw [hL];exact Bt);have hg:=qS hy.1 hy.2
    conv=>lhs;unfold dp
    rw [if_pos (by
     rw [Bx];exact (eB hg.1).2 ((cU hg.1).1 hg.2))]
    rfl
   rw [hgap] at r1;have hfl:(dp aW L [] [y]).flatten=(ps.map (·.1)).zip cs:=by rw [jg,hL];simp
   have hne:∀ G ∈ dp aW L [] [y],G≠[]:=iz (P:=fun G=>G≠[]) (fun G x _=>by simp) (fun x=>by simp) L [] [y] (by simp) (by simp);have hfit:∀ G ∈ dp aW L [] [y],G.length=1\/bw (aW G)=true:=iz (P:=fun G=>G.length=1\/bw (aW G)=true) (fun G x hf=>.inr hf) (fun x=>.inl rfl) L [] [y] (by simp) (.inl rfl);have hg0:dp aW L [] [y]≠[]:=fun e=>by rw [e,hL] at hfl;simp at hfl
   have hrow:=od (B:=s1.B) (hi:=none) (lo:=[]) (ps:=ps) (gs:=g1) hg0 hne (fun z hz=>by
    rw [hfl] at hz;exact ⟨⟨kq _,fun h e=>by cases e⟩,(hmem z hz).1⟩) (by rw [hfl,hz1];exact List.pairwise_map.2 hsr) (by rw [hfl,hz1,hz2];exact r2)
   have hrow2:fL (sV s1.B 0) [] ((dp aW L [] [y]).map rG).tail none ((dp aW L [] [y]).map aW) ps g1:=pz aW (kI (fun G hG lo' hi' p' g' hg' hT=>⟨hT.1,by
    have hgd:aD (aW G)=true:=fY hT.1 ((List.nodup_append.1 r3.nd).1.sublist hg') (fun q hq=>r3.pg (BC _ (hg'.subset hq))) (fun h=>absurd rfl h);rcases hfit G hG with h1 | h1
    ·obtain ⟨z,rfl⟩:=List.length_eq_one_iff.1 h1;have hz:=hmem z (by rw [<- hfl];exact List.mem_flatten.2 ⟨_,hG,Bt⟩);exact (qS hz.1 hz.2).2
    ·exact (cU hgd).2 ((eB hgd).1 h1),fun h=>absurd rfl h,hT.2⟩) hrow)
   have hcnt:(dp aW L [] [y]).length<=ps.length:=by
    have:∀ gl:List (List (By × Ce)),(∀ G ∈ gl,G≠[])->gl.length<=gl.flatten.length:=fun gl=>by
     induction gl with
     | nil=>intro _;simp
     | cons G gl ih=>
       intro h;have:=ih fun x hx=>h x (Bz _ hx)
       have:=List.length_pos_iff.2 (h G Bt);simp only [Bv,BG,Bw];omega
    have:=this _ hne;rw [hfl,hzl] at this;exact this
   obtain ⟨s2,q,d,g2,t1,t2,t3,t4⟩:=lG 20 hrow2 (by simp) (fun h hh=>by
    obtain ⟨G,hG,rfl⟩:=List.mem_map.1 hh;obtain ⟨z,G',rfl⟩:∃ z G',G=z :: G':=by
     cases G with
     | nil=>exact absurd rfl (hne _ hG)
     | cons z G'=>exact ⟨z,G',rfl⟩
    exact (hmem z (by rw [<- hfl];exact List.mem_flatten.2 ⟨_,hG,Bt⟩)).1) r3 (by rw [BD];omega) (by omega) (by
     rw [BD];have h20:(2:Nat) ^ 20=1048576:=by decide
     have:=rJ ps;omega)
   refine ⟨s2,q,?_,⟨d,g2,t2,t3⟩,r4.trans t4⟩;unfold eV;rw [ah r1];exact t1
end Go.Proofs.YtknioodagnjchaaGreatDoor
namespace Go.Proofs.YtknioodagnjchaaGreatDoor
open Nat renaming zero_le->Bt
open Go.RowKit
structure QSt (b3 gn:Nat) (n:Nd) (vk vc vd:Value) (w:World):Prop where
 g:w.heap[gn]?=some (ar n vk vc vd)
 k:Own sC 1 9 b3 w vk n.keys
 c:Own cC 3 119 b3 w vc n.cells
 d:Own iC 1 3 b3 w vd n.kids
 kc:Dis vk vc
 kd:Dis vk vd
 cd:Dis vc vd
 h1:gn<b3
section
variable {b3 gn:Nat} {n:Nd} {vk vc vd v':Value} {w w' w5:World}
theorem QSt.alloc (h:QSt b3 gn n vk vc vd w) (o:Obj):QSt b3 gn n vk vc vd (w.alloc o):=
 ⟨am h.g o,h.k.alloc o,h.c.alloc o,h.d.alloc o,h.kc,h.kd,h.cd,h.h1⟩
theorem QSt.below (h:QSt b3 gn n vk vc vd w) (hb:Below w.heap.size w w'):QSt b3 gn n vk vc vd w':=
 ⟨af h.g hb,h.k.below hb,h.c.below hb,h.d.below hb,h.kc,h.kd,h.cd,h.h1⟩
theorem QSt.AV (h:QSt b3 gn n vk vc vd w) {x:By} (ho:Own sC 1 9 b3 w5 v' (n.keys ++ [x])) (hg:w.grownBy w5 vk.ownBlock) (hat:v'.ownBlock=vk.ownBlock\/v'.ownBlock=some w.heap.size):
  QSt b3 gn { n with keys:=n.keys ++ [x] } v' vc vd (w5.setCell ⟨gn,1,none⟩ v'):=by
 have hb:∀ k,vk.ownBlock=some k->b3<=k:=fun k hk=>(h.k.lt k hk).1
 have hg5:=bb h.g hg hb h.h1;have hc:Ch (fun j=>j=gn) w5 (w5.setCell ⟨gn,1,none⟩ v'):=(Ch.refl (fun j=>j=gn) w5).setCell (p:=⟨gn,1,none⟩) rfl v';have hc5:=h.c.dis hg (h.kc.symm);have hd5:=h.d.dis hg (h.kd.symm)
 exact ⟨ai hg5 1 v',ho.ch hc (fun j hj e=>by have:=(ho.lt j hj).1;have:=h.h1;omega),hc5.ch hc (fun j hj e=>by have:=(hc5.lt j hj).1;have:=h.h1;omega),hd5.ch hc (fun j hj e=>by have:=(hd5.lt j hj).1;have:=h.h1;omega),
  h.kc.app hat h.c,h.kd.app hat h.d,h.cd,h.h1⟩
theorem QSt.AW (h:QSt b3 gn n vk vc vd w) {x:Ce} (ho:Own cC 3 119 b3 w5 v' (n.cells ++ [x])) (hg:w.grownBy w5 vc.ownBlock) (hat:v'.ownBlock=vc.ownBlock\/v'.ownBlock=some w.heap.size):
  QSt b3 gn { n with cells:=n.cells ++ [x] } vk v' vd (w5.setCell ⟨gn,2,none⟩ v'):=by
 have hb:∀ k,vc.ownBlock=some k->b3<=k:=fun k hk=>(h.c.lt k hk).1
 have hg5:=bb h.g hg hb h.h1;have hc:Ch (fun j=>j=gn) w5 (w5.setCell ⟨gn,2,none⟩ v'):=(Ch.refl (fun j=>j=gn) w5).setCell (p:=⟨gn,2,none⟩) rfl v';have hk5:=h.k.dis hg h.kc;have hd5:=h.d.dis hg (h.cd.symm)
 exact ⟨ai hg5 2 v',hk5.ch hc (fun j hj e=>by have:=(hk5.lt j hj).1;have:=h.h1;omega),ho.ch hc (fun j hj e=>by have:=(ho.lt j hj).1;have:=h.h1;omega),hd5.ch hc (fun j hj e=>by have:=(hd5.lt j hj).1;have:=h.h1;omega),
  (h.kc.symm.app hat h.k).symm,h.kd,h.cd.app hat h.d,h.h1⟩
theorem QSt.AE (h:QSt b3 gn n vk vc vd w) {x:Int} (ho:Own iC 1 3 b3 w5 v' (n.kids ++ [x])) (hg:w.grownBy w5 vd.ownBlock) (hat:v'.ownBlock=vd.ownBlock\/v'.ownBlock=some w.heap.size):
  QSt b3 gn { n with kids:=n.kids ++ [x] } vk vc v' (w5.setCell ⟨gn,3,none⟩ v'):=by
 have hb:∀ k,vd.ownBlock=some k->b3<=k:=fun k hk=>(h.d.lt k hk).1
 have hg5:=bb h.g hg hb h.h1;have hc:Ch (fun j=>j=gn) w5 (w5.setCell ⟨gn,3,none⟩ v'):=(Ch.refl (fun j=>j=gn) w5).setCell (p:=⟨gn,3,none⟩) rfl v';have hk5:=h.k.dis hg h.kd;have hc5:=h.c.dis hg h.cd
 exact ⟨ai hg5 3 v',hk5.ch hc (fun j hj e=>by have:=(hk5.lt j hj).1;have:=h.h1;omega),hc5.ch hc (fun j hj e=>by have:=(hc5.lt j hj).1;have:=h.h1;omega),ho.ch hc (fun j hj e=>by have:=(ho.lt j hj).1;have:=h.h1;omega),
  h.kc,(h.kd.symm.app hat h.k).symm,(h.cd.symm.app hat h.c).symm,h.h1⟩
end
theorem qy {l:By} {a b:Nat} (h:(cZ l (some a)).2=some b):a+1<=b/\b<=l.length:=by
 unfold cZ at h;simp only at h
 split at h
 ·cases h
 ·split at h
  ·cases h
  ·rename_i h0 h1
   have hu:(iE (l.drop a)).2.2=0:=Decidable.of_not_not fun h=>h1 (.inl h)
   have h2:=lR hu;have h3:0<(iE (l.drop a)).2.1:=mp (l.drop a) 0 0 hu;rw [List.length_drop] at h2;injection h with h
   omega
theorem ti (l:By) (p:Option Nat):(cZ l p).1<=5000:=by
 cases p with
 | none=>exact Bt _
 | some a=>
   unfold cZ;simp only
   split
   ·exact Bt _
   ·split
    ·exact Bt _
    ·simp only;omega
theorem kQ {l:By} {a b n:Nat} (h:(ci l (some a) n).2=some b):b=a+n/\b<=l.length:=by
 unfold ci at h;simp only at h
 split at h
 ·cases h
 ·injection h with h
  omega
theorem ov (l:By) (p:Option Nat) (n:Nat):(ci l p n).1.length<=l.length:=by
 cases p with
 | none=>exact Bt _
 | some a=>
   unfold ci;simp only
   split
   ·exact Bt _
   ·rw [List.length_take,List.length_drop];omega
theorem vM {l:By} {a b:Nat} (h:(kT l (some a)).2=some b):a+1<=b/\b<=l.length:=by
 unfold kT at h;cases hq:(cZ l (some a)).2 with
 | none=>rw [hq] at h;cases h
 | some c=> rw [hq] at h;have:=qy hq;have:=kQ h;omega
theorem mH {l:By} {a b:Nat} (h:(fG l (some a)).2=some b):a<=b/\b<=l.length:=by have:=kQ (show (ci l (some a) 4).2=some b from h);omega
theorem um {l:By} {a b:Nat} (h:(fH l (some a)).2=some b):a<=b/\b<=l.length:=by
 unfold fH at h;cases hq:(cZ l (some a)).2 with
 | none=>
   rw [hq] at h
   split at h <;> cases h
 | some c=>
   rw [hq] at h;have h1:=qy hq
   split at h
   ·have:=mH h;omega
   ·have:=kQ h;omega
theorem rY (l:By) (p:Option Nat):(fH l p).1.data.length<=l.length:=by
 unfold fH
 split
 ·exact Bt _
 ·exact ov _ _ _
structure QSz (l:By) (p:Option Nat) (n:Nd):Prop where
 sum:n.keys.length+(p.elim 0 fun a=>233 - a)<=234
 pos:∀ a,p=some a->a<=232
 c:n.cells.length<=n.keys.length
 d:n.kids.length<=n.keys.length+1
 kl:∀ k ∈ n.keys,k.length<=232
 cl:∀ c ∈ n.cells,c.data.length<=232
theorem QSz.bd {l:By} {p:Option Nat} {n:Nd} (h:QSz l p n):n.Bd:=by have:=h.sum;exact ⟨by omega,by have:=h.c;omega,by have:=h.d;omega,fun k hk=>by have:=h.kl k hk;omega,fun c hc=>by have:=h.cl c hc;omega⟩
theorem QSz.step {l:By} {a b:Nat} {n:Nd} {key:By} {p:Option Nat} (h:QSz l (some a) n) (hb:a+1<=b) (hk:key.length<=232) (hp:∀ d,p=some d->b<=d/\d<=232):
  (∀ c:Ce,c.data.length<=232->QSz l p { n with keys:=n.keys ++ [key],cells:=n.cells ++ [c] })/\∀ d:Int,QSz l p { n with keys:=n.keys ++ [key],kids:=n.kids ++ [d] }:=by
 have h1:=h.sum;have h2:=h.pos a rfl
 have h3:n.keys.length+1+(p.elim 0 fun a=>233 - a)<=234:=by
  simp only [Option.elim] at h1;cases p with
  | none=>simp only [Option.elim];omega
  | some d=>have:=hp d rfl;simp only [Option.elim];omega
 have hkl:∀ k ∈ n.keys ++ [key],k.length<=232:=fun k hk'=>by
  rcases List.mem_append.1 hk' with hk' | hk'
  ·exact h.kl k hk'
  ·rw [List.mem_singleton.1 hk'];exact hk
 refine ⟨fun c hc=>⟨by simpa using h3,fun d e=>(hp d e).2,by have:=h.c;simp;omega,by have:=h.d;simp;omega,hkl,fun c' hc'=>?_⟩,fun d=>⟨by simpa using h3,fun d e=>(hp d e).2,by have:=h.c;simp;omega,by have:=h.d;simp;omega,hkl,h.cl⟩⟩;rcases List.mem_append.1 hc' with hc' | hc'
 ·exact h.cl c' hc'
 ·rw [List.mem_singleton.1 hc'];exact hc
theorem ou {l:By} (hl:l.length=232):QSz l (cB l).1 (cB l).2/\(cB l).2.leaf=decide (l.getD 0 0=1):=by
 unfold cB
 split
 ·rename_i h1
  exact ⟨⟨by simp,fun a e=>by injection e with e;omega,by simp,by simp,by simp,by simp⟩,by rw [decide_eq_true h1]⟩
 ·rename_i h1
  refine ⟨⟨?_,fun a e=>by have:=mH e;omega,by simp,by simp,by simp,by simp⟩,by rw [decide_eq_false h1]⟩;simp only [List.length_nil,Nat.zero_add];cases (fG l (some 3)).2 with
  | none=>simp
  | some a=>simp;omega
theorem pD {l:By} {p:Option Nat} {n:Nd} (h:pC l=some (p,n)):vN l=if p≠none/\dX n=0/\eI n=l then some n else none:=by
 unfold vN;rw [h];cases p with
 | none=>simp
 | some a=>simp
end Go.Proofs.YtknioodagnjchaaGreatDoor
namespace Go.Proofs.YtknioodagnjchaaGreatDoor
open Go.Proofs.Tryz renaming results63->Bt
open Go renaming bodyPost_ret->Bv,results->Bw
open Go.Lib renaming hid->Z
open Go.RowKit
theorem eJ (a:Nat):eW (some a)=(a:Int):=rfl
theorem gY:eW none=-1:=rfl
theorem yo {n:Nat} (h:n<1000000):IntKind.i64.wrap (n:Int)=(n:Int):=IntWalk.i64_in _ (by omega)
theorem zv {l:By} (hl:l.length=232):cw ((l.drop 1).take 2)=(l.getD 1 0).toNat * 256+(l.getD 2 0).toNat:=by
 match l,hl with
 | a :: b :: c :: r,_=>simp [cw]
theorem sP {l:By} {i:Nat} (h:i<(ap l).size):(ap l)[i]=l.getD i 0:=by rw [List.getD_eq_getElem?_getD,List.getElem?_eq_getElem h,Option.getD_some];rfl
theorem qz (l:By) (hl:l.length=232) (w:World):Calls Tryz.prog 63 #[.string (ap l)] w fun e w'=>∃ v c,e=.returned (.tuple #[v,.int .i64 c])/\zr w.heap.size w' v c (dO l)/\Below w.heap.size w w':=by
 have HDN:=Z (xC hl);have hs1:(ap l).size=232:=(au l).trans hl;have hs0:((ap l).size:Int)=232:=by rw [hs1];rfl
 have hl6:l.length<=1000000:=by omega
 have hb0:(ap l)[0]'(by rw [hs1];decide)=l.getD 0 0:=sP _;have hb1:(ap l)[1]'(by rw [hs1];decide)=l.getD 1 0:=sP _;have hb2:(ap l)[2]'(by rw [hs1];decide)=l.getD 2 0:=sP _;obtain ⟨lf,hlf⟩:∃ lf:Bool,lf=decide (l.getD 0 0=1):=⟨_,rfl⟩;have hb3:(((l.getD 0 0).toNat:Int) == 1)=lf:=by
  rw [hlf];by_cases h:l.getD 0 0=1
  ·rw [h];rfl
  ·rw [decide_eq_false h];refine beq_eq_false_iff_ne.2 fun e=>h ?_
   apply UInt8.toNat_inj.1;show (l.getD 0 0).toNat=1;omega
 have HQI:=Z (show lf=false->cB l=((fG l (some 3)).2,⟨false,[],[],[((fG l (some 3)).1:Int)]⟩) from fun h=>by
  unfold cB;rw [if_neg (by rw [hlf] at h;simpa using h)])
 have HQL:=Z (show lf=true->cB l=(some 3,⟨true,[],[],[]⟩) from fun h=>by
  unfold cB;rw [if_pos (by rw [hlf] at h;simpa using h)])
 have HLF:=Z (show (cB l).2.leaf=lf by rw [(ou hl).2,hlf]);have HM:=Z (zv hl);have HSS:=Z (ou hl).1;have HRW:=Z (show pC l=ul l (cw ((l.drop 1).take 2)) (cB l).1 (cB l).2 from rfl);rw [HM.out] at HRW;clear hlf;have hz1:=(l.getD 1 0).toNat_lt;have hz2:=(l.getD 2 0).toNat_lt;generalize l.getD 0 0=y0 at *;generalize l.getD 1 0=y1 at *;generalize l.getD 2 0=y2 at *;have hw1:IntKind.i64.wrap (y1.toNat:Int)=(y1.toNat:Int):=yo (by omega);have hw2:IntKind.i64.wrap (y2.toNat:Int)=(y2.toNat:Int):=yo (by omega);have hw3:IntKind.i64.wrap ((y1.toNat:Int) * 256)=(y1.toNat:Int) * 256:=IntWalk.i64_in _ (by omega);have hw4:IntKind.i64.wrap ((y1.toNat:Int) * 256+(y2.toNat:Int))=((y1.toNat * 256+y2.toNat:Nat):Int):=by rw [IntWalk.i64_in _ (by omega)];omega
 go_enter Tryz.func63,Tryz.ntmps63;have HS3:=Z (show QSt (w.heap.size+2) (w.heap.size+1) ⟨lf,[],[],[]⟩ (.slice none 0 0) (.slice none 0 0) (.slice none 0 0) ((w.alloc (ar Nd.zero (.slice none 0 0) (.slice none 0 0) (.slice none 0 0))).alloc (ar ⟨lf,[],[],[]⟩ (.slice none 0 0) (.slice none 0 0) (.slice none 0 0))) from
  ⟨ag (by simp),Own.nil,Own.nil,Own.nil,Dis.nil,Dis.nil,Dis.nil,by omega⟩)
 have HZ3:=Z (show ((w.alloc (ar Nd.zero (.slice none 0 0) (.slice none 0 0) (.slice none 0 0))).alloc (ar ⟨lf,[],[],[]⟩ (.slice none 0 0) (.slice none 0 0) (.slice none 0 0))).heap[w.heap.size]?=some (ar Nd.zero (.slice none 0 0) (.slice none 0 0) (.slice none 0 0)) from
  am (ag rfl) _)
 have HW3:=Z (((Below.refl _ w).alloc (Nat.le_refl _) (ar Nd.zero (.slice none 0 0) (.slice none 0 0) (.slice none 0 0))).alloc (by simp) (ar ⟨lf,[],[],[]⟩ (.slice none 0 0) (.slice none 0 0) (.slice none 0 0)));have HH3:((w.alloc (ar Nd.zero (.slice none 0 0) (.slice none 0 0) (.slice none 0 0))).alloc (ar ⟨lf,[],[],[]⟩ (.slice none 0 0) (.slice none 0 0) (.slice none 0 0))).heap.size=w.heap.size+2:=by simp
 go_upto_region 4 with fail
 generalize hq1:(w.alloc (.cells #[.bool false,.slice none 0 0,.slice none 0 0,.slice none 0 0] 110)).alloc (.cells #[.bool lf,.slice none 0 0,.slice none 0 0,.slice none 0 0] 110)=w3 at *;have hq2:(w.alloc (ar Nd.zero (.slice none 0 0) (.slice none 0 0) (.slice none 0 0))).alloc (ar ⟨lf,[],[],[]⟩ (.slice none 0 0) (.slice none 0 0) (.slice none 0 0))=w3:=hq1;rw [hq2] at HS3 HZ3 HW3 HH3;clear hq1 hq2;have HH:=Z HH3;rw [<- HH3] at HS3;have hx3:w.heap.size+1<w3.heap.size:=by omega
 clear HH3;refine aM (by kernel_rfl) (by kernel_rfl) ?_
 repeat (go_big_quiet_step (fail))
 refine wpQuiet_nil ?_;rintro w4 ⟨⟨w5,hb⟩,rfl⟩;have HS4:=Z (HS3.out.below hb);have HC4:=Z (Ch.zK (S:=fun k=>k=w.heap.size+1) hb);clear hb hw1 hw2 hw3 hw4 hb0 hb1 hb2 hb3 HS3;have hm:(y1.toNat:Int) * 256+(y2.toNat:Int)=((y1.toNat * 256+y2.toNat:Nat):Int):=by omega
 have hml:y1.toNat * 256+y2.toNat<65536:=by omega
 rw [hm];clear hm HM;generalize y1.toNat * 256+y2.toNat=m at *;obtain ⟨a0,a1,a2,a3,a4⟩:=aa HS4.out.g;simp only at a0;go_upto_if 42 with fail
 clear a0 a1 a2 a3 a4;go_cut [6] from 7 to 55 (fun v wc=>∃ vd,v=.int .i64 (eW (cB l).1)/\QSt w3.heap.size (w.heap.size+1) (cB l).2 (.slice none 0 0) (.slice none 0 0) vd wc/\Ch (fun k=>k=w.heap.size+1) w3 wc)
 case first=>
  obtain ⟨a0,a1,a2,a3,a4⟩:=aa HS4.out.g;simp only at a0;cases lf
  ·have HQ:=Z (jH l (some 3) w4 hl6);obtain ⟨⟨x,p⟩,hx⟩:∃ x,fG l (some 3)=x:=⟨_,rfl⟩;have HST:=Z (show cB l=(p,⟨false,[],[],[(x:Int)]⟩) by rw [HQI.out rfl,hx]);rw [hx,show eW (some 3)=3 from rfl] at HQ;clear hx;unfold mG at HQ;simp only at HQ;have HPV:=Z (show eW (cB l).1=eW p by rw [HST.out]);generalize eW p=pv at *;go_wp2_with fail;refine HQ.out.mono ?_;rintro e w5 ⟨rfl,rfl⟩;have fz:=ab HS4.out.g 3;go_wp2_with (at_builtin;refine Hid.out ?_);refine Z ?_;refine al (xs:=[]) (ys:=[(x:Int)]) rfl rfl bI rfl rfl (HS4.out.d.alloc _) (Sl.one (x:Int) (by simp) ax rfl) (by simp [maxLen]) (by simp) (by have:=HC4.out.size;simp;omega) ?_;intro v' w6 ho hg hat;have HG6:=Z (bb (HS4.out.alloc _).g hg (fun k hk=>(HS4.out.d.lt k hk).1) HS4.out.h1);have HS6:=Z ((HS4.out.alloc _).AE ho hg hat);obtain ⟨A6,c6,h6⟩:=kE ho;simp only [List.length_nil,Nat.zero_add] at h6;subst h6;clear a0 a1 a2 a3 a4 fz;obtain ⟨e0,e1,e2,e3,e4⟩:=aa HG6.out;have ez:=ab HG6.out 3;have HC6:=Z ((HC4.out.alloc _).then (Ch.zL (S:=fun k=>w3.heap.size<=k) hg (fun k hk=>(HS4.out.d.lt k hk).1)) (fun i e=>.inr e));clear ho hg hat;go_wp2_with fail;go_meet
   case rel=> rw [HPV.out,HST.out];exact ⟨_,rfl,HS6.out,HC6.out.setCell (p:=⟨w.heap.size+1,3,none⟩) rfl _⟩
  ·have HST:=Z (HQL.out rfl);go_wp2_with fail;go_meet
   case rel=> rw [HST.out];exact ⟨_,rfl,HS4.out,HC4.out⟩
 case rest=>
  obtain ⟨vd,rfl,hs5,hc5⟩:=hcut;have HS5:=Z hs5;have HC5:=Z hc5;clear hs5 hc5 HS4 HC4 HQI HQL;generalize (cB l).1=p0 at *;generalize (cB l).2=n0 at *;go_wp2_with fail;go_loopw [6,9] (fun av iv wr=>∃ (c:Nat) (p:Option Nat) (n:Nd) (vk vc vd:Value),c<=m/\av=.int .i64 (eW p)/\iv=.int .i64 ((m - c:Nat):Int)/\ul l c p n=pC l/\QSz l p n/\n.leaf=lf/\QSt w3.heap.size (w.heap.size+1) n vk vc vd wr/\Ch (fun k=>k=w.heap.size+1) w3 wr) (fun _ iv _=>m - (intOf iv).toNat)
  case atStart=>exact ⟨m,p0,n0,_,_,_,Nat.le_refl _,rfl,by rw [Nat.sub_self];rfl,HRW.out.symm,HSS.out,HLF.out,HS5.out,HC5.out⟩
  case round=>
   obtain ⟨c,p,n,vk,vc,vd',hcm,rfl,rfl,hqg,hsz,hlf,hst,hch⟩:=hrel;clear HRW HSS HLF HS5 HC5;have HQG:=Z hqg;have HSZ:=Z hsz;have HST:=Z hst;have HCH:=Z hch;have HLN:=Z hlf;clear hqg hsz hst hch hlf;obtain ⟨A1,c1,rfl⟩:=Sl.zM (HST.out.k.sl aG);obtain ⟨A2,c2,rfl⟩:=Sl.zM (HST.out.c.sl bx);obtain ⟨A3,c3,rfl⟩:=Sl.zM (HST.out.d.sl ax);obtain ⟨a0,a1,a2,a3,a4⟩:=aa HST.out.g;rw [HLN.out] at a0;cases c with
   | zero=>
     have HRAW:=Z (show pC l=some (p,n) from HQG.out.symm);rw [Nat.sub_zero];cases p with
     | none=>
       (first | rw [eJ] | rw [gY])
       have HNV:=Z (show NdV wr (.agg #[.bool lf,.slice A1 n.keys.length c1,.slice A2 n.cells.length c2,.slice A3 n.kids.length c3]) n from ⟨_,_,_,by rw [HLN.out],HST.out.k.sl aG,HST.out.c.sl bx,HST.out.d.sl ax⟩);go_wp2_with fail;refine (iV n _ _ HNV.out HSZ.out.bd).mono ?_;rintro e w7 ⟨rfl,hb⟩;have HS7:=Z (HST.out.below hb);have HCH7:=Z (HCH.out.trans (Ch.zK hb));have HZ7:=Z (HCH7.out.keep HZ3.out (by omega));have HDE:=Z (HDN.out.symm.trans (pD HRAW.out));clear hb a0 a1 a2 a3 a4;obtain ⟨a0,a1,a2,a3,a4⟩:=aa HS7.out.g;rw [HLN.out] at a0;obtain ⟨o0,o1,o2,o3,o4⟩:=aa HZ7.out;have q0:=ab HZ7.out 0;have q1:=ab HZ7.out 1;have q2:=ab HZ7.out 2;have q3:=ab HZ7.out 3;simp only [Nd.zero] at o0;have HEL:=Z (show dX n=dX n/\eI n=eI n from ⟨rfl,rfl⟩);generalize dX n=ec at *;generalize eI n=el at *;have HV:=Z (show dO l=none by rw [HDE.out,if_neg (fun h=>h.1 rfl)]);go_wp2_with fail;have hf:=ai (ai (ai (ai HZ7.out 0 (.bool false)) 1 (.slice none 0 0)) 2 (.slice none 0 0)) 3 (.slice none 0 0);obtain ⟨z0,z1,z2,z3,-⟩:=aa (n:=Nd.zero) hf;simp only [Nd.zero] at z0;have HC0:=Z ((((Ch.refl (fun j=>j=w.heap.size) w7).setCell (p:=⟨w.heap.size,0,none⟩) rfl (.bool false)).setCell (p:=⟨w.heap.size,1,none⟩) rfl (.slice none 0 0)).setCell (p:=⟨w.heap.size,2,none⟩) rfl (.slice none 0 0) |>.setCell (p:=⟨w.heap.size,3,none⟩) rfl (.slice none 0 0))
       exact Bv (v:=.tuple #[.agg #[.bool false,.slice none 0 0,.slice none 0 0,.slice none 0 0],.int .i64 4]) (by simp [Bw,Bt,go_sem,z0,z1,z2,z3]) rfl
        ⟨_,_,rfl,by rw [HV.out];exact ⟨rfl,rfl⟩,(HW3.out.trans (HCH7.out.below (B:=w.heap.size) (by omega) (by omega))).trans (HC0.out.below (B:=w.heap.size) (by have:=HCH7.out.size;omega) (by omega))⟩
     | some a=>
       have ha:(0:Int)<=(a:Int):=by omega
       (first | rw [eJ] | rw [gY])
       have HNV:=Z (show NdV wr (.agg #[.bool lf,.slice A1 n.keys.length c1,.slice A2 n.cells.length c2,.slice A3 n.kids.length c3]) n from ⟨_,_,_,by rw [HLN.out],HST.out.k.sl aG,HST.out.c.sl bx,HST.out.d.sl ax⟩);go_wp2_with fail;refine (iV n _ _ HNV.out HSZ.out.bd).mono ?_;rintro e w7 ⟨rfl,hb⟩;have HS7:=Z (HST.out.below hb);have HCH7:=Z (HCH.out.trans (Ch.zK hb));have HZ7:=Z (HCH7.out.keep HZ3.out (by omega));have HDE:=Z (HDN.out.symm.trans (pD HRAW.out));clear hb a0 a1 a2 a3 a4;obtain ⟨a0,a1,a2,a3,a4⟩:=aa HS7.out.g;rw [HLN.out] at a0;obtain ⟨o0,o1,o2,o3,o4⟩:=aa HZ7.out;have q0:=ab HZ7.out 0;have q1:=ab HZ7.out 1;have q2:=ab HZ7.out 2;have q3:=ab HZ7.out 3;simp only [Nd.zero] at o0;have HEL:=Z (show dX n=dX n/\eI n=eI n from ⟨rfl,rfl⟩);generalize dX n=ec at *;generalize eI n=el at *;by_cases hec:ec=0
       ·subst hec;by_cases hel:el=l
        ·subst hel;have HV:=Z (show dO el=some n by rw [HDE.out,if_pos ⟨by simp,rfl,rfl⟩]);go_wp2_with fail;have hf:=ai (ai (ai (ai HZ7.out 0 (.bool lf)) 1 (.slice A1 n.keys.length c1)) 2 (.slice A2 n.cells.length c2)) 3 (.slice A3 n.kids.length c3);obtain ⟨z0,z1,z2,z3,-⟩:=aa (n:=⟨lf,n.keys,n.cells,n.kids⟩) hf;have HC0:=Z ((((Ch.refl (fun j=>j=w.heap.size) w7).setCell (p:=⟨w.heap.size,0,none⟩) rfl (.bool lf)).setCell (p:=⟨w.heap.size,1,none⟩) rfl (.slice A1 n.keys.length c1)).setCell (p:=⟨w.heap.size,2,none⟩) rfl (.slice A2 n.cells.length c2) |>.setCell (p:=⟨w.heap.size,3,none⟩) rfl (.slice A3 n.kids.length c3))
         exact Bv (v:=.tuple #[.agg #[.bool lf,.slice A1 n.keys.length c1,.slice A2 n.cells.length c2,.slice A3 n.kids.length c3],.int .i64 0]) (by simp [Bw,Bt,go_sem,z0,z1,z2,z3]) rfl
          ⟨_,_,rfl,by rw [HV.out];exact ⟨rfl,_,_,_,by rw [HLN.out],(HS7.out.k.base (by omega)).ch HC0.out (fun j hj e=>by have:=(HS7.out.k.lt j hj).1;omega),(HS7.out.c.base (by omega)).ch HC0.out (fun j hj e=>by have:=(HS7.out.c.lt j hj).1;omega),(HS7.out.d.base (by omega)).ch HC0.out (fun j hj e=>by have:=(HS7.out.d.lt j hj).1;omega),HS7.out.kc,HS7.out.kd,HS7.out.cd⟩,
           (HW3.out.trans (HCH7.out.below (B:=w.heap.size) (by omega) (by omega))).trans (HC0.out.below (B:=w.heap.size) (by have:=HCH7.out.size;omega) (by omega))⟩
        ·have hel2:((ap el).toList == (ap l).toList)=false:=by rw [ay,ay];simpa using hel
         have hel3:((ap el).toList != (ap l).toList)=true:=by rw [bne,hel2];rfl
         have HV:=Z (show dO l=none by rw [HDE.out,if_neg (fun h=>hel h.2.2)]);go_wp2_with fail;have hf:=ai (ai (ai (ai HZ7.out 0 (.bool false)) 1 (.slice none 0 0)) 2 (.slice none 0 0)) 3 (.slice none 0 0);obtain ⟨z0,z1,z2,z3,-⟩:=aa (n:=Nd.zero) hf;simp only [Nd.zero] at z0;have HC0:=Z ((((Ch.refl (fun j=>j=w.heap.size) w7).setCell (p:=⟨w.heap.size,0,none⟩) rfl (.bool false)).setCell (p:=⟨w.heap.size,1,none⟩) rfl (.slice none 0 0)).setCell (p:=⟨w.heap.size,2,none⟩) rfl (.slice none 0 0) |>.setCell (p:=⟨w.heap.size,3,none⟩) rfl (.slice none 0 0))
         exact Bv (v:=.tuple #[.agg #[.bool false,.slice none 0 0,.slice none 0 0,.slice none 0 0],.int .i64 4]) (by simp [Bw,Bt,go_sem,z0,z1,z2,z3]) rfl
          ⟨_,_,rfl,by rw [HV.out];exact ⟨rfl,rfl⟩,(HW3.out.trans (HCH7.out.below (B:=w.heap.size) (by omega) (by omega))).trans (HC0.out.below (B:=w.heap.size) (by have:=HCH7.out.size;omega) (by omega))⟩
       ·have hec2:(ec == 0)=false:=by simpa using hec
        have hec3:(ec != 0)=true:=by rw [bne,hec2];rfl
        have HV:=Z (show dO l=none by rw [HDE.out,if_neg (fun h=>hec h.2.1)]);go_wp2_with fail;have hf:=ai (ai (ai (ai HZ7.out 0 (.bool false)) 1 (.slice none 0 0)) 2 (.slice none 0 0)) 3 (.slice none 0 0);obtain ⟨z0,z1,z2,z3,-⟩:=aa (n:=Nd.zero) hf;simp only [Nd.zero] at z0;have HC0:=Z ((((Ch.refl (fun j=>j=w.heap.size) w7).setCell (p:=⟨w.heap.size,0,none⟩) rfl (.bool false)).setCell (p:=⟨w.heap.size,1,none⟩) rfl (.slice none 0 0)).setCell (p:=⟨w.heap.size,2,none⟩) rfl (.slice none 0 0) |>.setCell (p:=⟨w.heap.size,3,none⟩) rfl (.slice none 0 0))
        exact Bv (v:=.tuple #[.agg #[.bool false,.slice none 0 0,.slice none 0 0,.slice none 0 0],.int .i64 4]) (by simp [Bw,Bt,go_sem,z0,z1,z2,z3]) rfl
         ⟨_,_,rfl,by rw [HV.out];exact ⟨rfl,rfl⟩,(HW3.out.trans (HCH7.out.below (B:=w.heap.size) (by omega) (by omega))).trans (HC0.out.below (B:=w.heap.size) (by have:=HCH7.out.size;omega) (by omega))⟩
   | succ c=>
     have hmc:((m - (c+1):Nat):Int)<(m:Int):=by omega
     have hm0:(m - (c+1))+1=m - c:=by omega
     have HM0:=Z hm0;have hmb:m - (c+1)<65536:=by omega
     clear hm0;generalize m - (c+1)=i at *;cases p with
     | none=>
       have HRAW:=Z (show pC l=some (none,n) from HQG.out.symm)
       (first | rw [eJ] | rw [gY])
       have HNV:=Z (show NdV wr (.agg #[.bool lf,.slice A1 n.keys.length c1,.slice A2 n.cells.length c2,.slice A3 n.kids.length c3]) n from ⟨_,_,_,by rw [HLN.out],HST.out.k.sl aG,HST.out.c.sl bx,HST.out.d.sl ax⟩);go_wp2_with fail;refine (iV n _ _ HNV.out HSZ.out.bd).mono ?_;rintro e w7 ⟨rfl,hb⟩;have HS7:=Z (HST.out.below hb);have HCH7:=Z (HCH.out.trans (Ch.zK hb));have HZ7:=Z (HCH7.out.keep HZ3.out (by omega));have HDE:=Z (HDN.out.symm.trans (pD HRAW.out));clear hb a0 a1 a2 a3 a4;obtain ⟨a0,a1,a2,a3,a4⟩:=aa HS7.out.g;rw [HLN.out] at a0;obtain ⟨o0,o1,o2,o3,o4⟩:=aa HZ7.out;have q0:=ab HZ7.out 0;have q1:=ab HZ7.out 1;have q2:=ab HZ7.out 2;have q3:=ab HZ7.out 3;simp only [Nd.zero] at o0;have HEL:=Z (show dX n=dX n/\eI n=eI n from ⟨rfl,rfl⟩);generalize dX n=ec at *;generalize eI n=el at *;have HV:=Z (show dO l=none by rw [HDE.out,if_neg (fun h=>h.1 rfl)]);go_wp2_with fail;have hf:=ai (ai (ai (ai HZ7.out 0 (.bool false)) 1 (.slice none 0 0)) 2 (.slice none 0 0)) 3 (.slice none 0 0);obtain ⟨z0,z1,z2,z3,-⟩:=aa (n:=Nd.zero) hf;simp only [Nd.zero] at z0;have HC0:=Z ((((Ch.refl (fun j=>j=w.heap.size) w7).setCell (p:=⟨w.heap.size,0,none⟩) rfl (.bool false)).setCell (p:=⟨w.heap.size,1,none⟩) rfl (.slice none 0 0)).setCell (p:=⟨w.heap.size,2,none⟩) rfl (.slice none 0 0) |>.setCell (p:=⟨w.heap.size,3,none⟩) rfl (.slice none 0 0))
       exact Bv (v:=.tuple #[.agg #[.bool false,.slice none 0 0,.slice none 0 0,.slice none 0 0],.int .i64 4]) (by simp [Bw,Bt,go_sem,z0,z1,z2,z3]) rfl
        ⟨_,_,rfl,by rw [HV.out];exact ⟨rfl,rfl⟩,(HW3.out.trans (HCH7.out.below (B:=w.heap.size) (by omega) (by omega))).trans (HC0.out.below (B:=w.heap.size) (by have:=HCH7.out.size;omega) (by omega))⟩
     | some a=>
       have ha:(0:Int)<=(a:Int):=by omega
       have HQ1:=Z (lD l (some a) wr hl6);have hx5:=ti l (some a);obtain ⟨⟨x1,p1⟩,hx1⟩:∃ x,cZ l (some a)=x:=⟨_,rfl⟩;rw [hx1] at HQ1 hx5;simp only at hx5;have HQ2:=Z (kR l p1 x1 wr hl6 (by omega));have HKY:=Z (show kT l (some a)=ci l p1 x1 by unfold kT;rw [hx1]);have HKL:=Z (show (ci l p1 x1).1.length<=232 from hl ▸ ov l p1 x1);have HKP:=Z (fun b=>vM (l:=l) (a:=a) (b:=b));obtain ⟨⟨key,p2⟩,hx2⟩:∃ x,ci l p1 x1=x:=⟨_,rfl⟩;rw [hx2] at HQ2 HKY HKL;simp only at HKL;rw [HKY.out] at HKP;simp only at HKP;clear hx1 hx2;unfold mG at HQ1;unfold mF at HQ2;simp only [eJ] at HQ1 ⊢;simp only at HQ2;go_wp2_with fail;refine HQ1.out.mono ?_;rintro e w5 ⟨rfl,rfl⟩;clear HQ1;generalize eW p1=v1 at *;go_wp2_with fail;refine HQ2.out.mono ?_;rintro e w5 ⟨rfl,rfl⟩;clear HQ2;cases p2 with
       | none=>
         have HV:=Z (show dO l=none by
          rw [<- HDN.out];unfold vN;rw [<- HQG.out];unfold ul;rw [HKY.out])
         have HCH7:=HCH;have HZ7:=Z (HCH7.out.keep HZ3.out (by omega));obtain ⟨o0,o1,o2,o3,o4⟩:=aa HZ7.out;have q0:=ab HZ7.out 0;have q1:=ab HZ7.out 1;have q2:=ab HZ7.out 2;have q3:=ab HZ7.out 3;simp only [Nd.zero] at o0
         (first | rw [eJ] | rw [gY])
         have hwz:∃ w7:World,w7=wr:=⟨_,rfl⟩;obtain ⟨w7,hw7⟩:=hwz;subst hw7;go_wp2_with fail;have hf:=ai (ai (ai (ai HZ7.out 0 (.bool false)) 1 (.slice none 0 0)) 2 (.slice none 0 0)) 3 (.slice none 0 0);obtain ⟨z0,z1,z2,z3,-⟩:=aa (n:=Nd.zero) hf;simp only [Nd.zero] at z0;have HC0:=Z ((((Ch.refl (fun j=>j=w.heap.size) w7).setCell (p:=⟨w.heap.size,0,none⟩) rfl (.bool false)).setCell (p:=⟨w.heap.size,1,none⟩) rfl (.slice none 0 0)).setCell (p:=⟨w.heap.size,2,none⟩) rfl (.slice none 0 0) |>.setCell (p:=⟨w.heap.size,3,none⟩) rfl (.slice none 0 0))
         exact Bv (v:=.tuple #[.agg #[.bool false,.slice none 0 0,.slice none 0 0,.slice none 0 0],.int .i64 4]) (by simp [Bw,Bt,go_sem,z0,z1,z2,z3]) rfl
          ⟨_,_,rfl,by rw [HV.out];exact ⟨rfl,rfl⟩,(HW3.out.trans (HCH7.out.below (B:=w.heap.size) (by omega) (by omega))).trans (HC0.out.below (B:=w.heap.size) (by have:=HCH7.out.size;omega) (by omega))⟩
       | some b=>
         have hb:(0:Int)<=(b:Int):=by omega
         have hab:=HKP.out b rfl
         (first | rw [eJ] | rw [gY])
         have fz:=ab HST.out.g 1;have hnk:n.keys.length<=1000:=by have:=HSZ.out.sum;omega
         go_wp2_with (at_builtin;refine Hid.out ?_);refine Z ?_;refine al (xs:=n.keys) (ys:=[key]) rfl rfl gT rfl rfl (HST.out.k.alloc _) (Sl.one (key:By) (by simp) aG rfl) (by simp [maxLen];omega) (by simp;omega) (by have:=HCH.out.size;simp;omega) ?_;intro v' w8 ho hg hat;have HG8:=Z (bb (HST.out.alloc _).g hg (fun k hk=>(HST.out.k.lt k hk).1) HST.out.h1);have HS9:=Z ((HST.out.alloc _).AV ho hg hat);obtain ⟨A8,c8,h8⟩:=rD ho;subst h8;have HC8:=Z ((HCH.out.alloc _).then (Ch.zL (S:=fun k=>w3.heap.size<=k) hg (fun k hk=>(HST.out.k.lt k hk).1)) (fun i e=>.inr e));have HC9:=Z (HC8.out.setCell (p:=⟨w.heap.size+1,1,none⟩) rfl (.slice A8 (n.keys.length+1) c8));clear ho hg hat a0 a1 a2 a3 a4 fz HST HCH;obtain ⟨e0,e1,e2,e3,e4⟩:=aa HG8.out;have ez:=ab HG8.out 1;go_upto_region 18 with fail
         generalize w8.setCell ⟨w.heap.size+1,1,none⟩ (.slice A8 (n.keys.length+1) c8)=w9 at *;clear e0 e1 e2 e3 e4 ez HG8 HC8;obtain ⟨a0,a1,a2,a3,a4⟩:=aa HS9.out.g;simp only at a0 a1 a2 a3;rw [HLN.out] at a0;cases lf
         ·have HQ1:=Z (jH l (some b) w9 hl6);have HFP:=Z (fun d=>mH (l:=l) (a:=b) (b:=d))
          have HQG2:=Z (show ul l c (fG l (some b)).2 { n with keys:=n.keys ++ [key],kids:=n.kids ++ [((fG l (some b)).1:Int)] }=pC l by
           rw [<- HQG.out,ul,HKY.out];simp only;rw [if_neg (by rw [HLN.out];simp)])
          obtain ⟨⟨x,q⟩,hx⟩:∃ x,fG l (some b)=x:=⟨_,rfl⟩;rw [hx] at HQ1 HFP HQG2;simp only at HFP HQG2;clear hx;have HSZ2:=Z ((HSZ.out.step (p:=q) hab.1 HKL.out (fun d e=>by have:=HFP.out d e;omega)).2 x);unfold mG at HQ1;simp only [eJ] at HQ1;go_wp2_with fail;refine HQ1.out.mono ?_;rintro e w10 ⟨rfl,rfl⟩;clear HQ1;obtain ⟨pv,hpv⟩:∃ v,v=eW q:=⟨_,rfl⟩;have HPV:=Z hpv;rw [<- hpv];clear hpv;have fz:=ab HS9.out.g 3;have hnd:n.kids.length<=1000:=by have:=HSZ.out.sum;have:=HSZ.out.d;omega
          go_wp2_with (at_builtin;refine Hid.out ?_);refine Z ?_;refine al (xs:=n.kids) (ys:=[(x:Int)]) rfl rfl bI rfl rfl (HS9.out.d.alloc _) (Sl.one (x:Int) (by simp) ax rfl) (by simp [maxLen];omega) (by simp;omega) (by have:=HC9.out.size;simp;omega) ?_;intro v' w10 ho hg hat;have HG10:=Z (bb (HS9.out.alloc _).g hg (fun k hk=>(HS9.out.d.lt k hk).1) HS9.out.h1);have HS11:=Z ((HS9.out.alloc _).AE ho hg hat);obtain ⟨A10,c10,h10⟩:=kE ho;subst h10;have HC10:=Z ((HC9.out.alloc _).then (Ch.zL (S:=fun k=>w3.heap.size<=k) hg (fun k hk=>(HS9.out.d.lt k hk).1)) (fun i e=>.inr e));clear ho hg hat a0 a1 a2 a3 a4 fz;obtain ⟨e0,e1,e2,e3,e4⟩:=aa HG10.out;have ez:=ab HG10.out 3;go_wp2_with fail;go_roundw
          case rel=>exact ⟨c,q,_,_,_,_,by omega,by rw [HPV.out],by rw [<- HM0.out];go_num,HQG2.out,HSZ2.out,HLN.out,HS11.out,HC10.out.setCell (p:=⟨w.heap.size+1,3,none⟩) rfl _⟩
          case measure=>simp [intOf];omega
         ·have HQ1:=Z (lD l (some b) w9 hl6);have hx5:=ti l (some b);have HCP:=Z (fun d=>um (l:=l) (a:=b) (b:=d));have HCD:=Z (show (fH l (some b)).1.data.length<=232 from hl ▸ rY l (some b))
          have HQG2:=Z (show ul l c (fH l (some b)).2 { n with keys:=n.keys ++ [key],cells:=n.cells ++ [(fH l (some b)).1] }=pC l by
           rw [<- HQG.out,ul,HKY.out];simp only;rw [if_pos (by rw [HLN.out])])
          have HCE:=Z (show fH l (some b)=if 40<(cZ l (some b)).1 then (⟨(cZ l (some b)).1,[],(fG l (cZ l (some b)).2).1⟩,(fG l (cZ l (some b)).2).2)
           else (⟨(cZ l (some b)).1,(ci l (cZ l (some b)).2 (cZ l (some b)).1).1,0⟩,(ci l (cZ l (some b)).2 (cZ l (some b)).1).2) from rfl)
          obtain ⟨⟨x3,p3⟩,hx3⟩:∃ x,cZ l (some b)=x:=⟨_,rfl⟩;rw [hx3] at HQ1 hx5 HCE;simp only at hx5 HCE;clear hx3;obtain ⟨⟨ce,q⟩,hce⟩:∃ x,fH l (some b)=x:=⟨_,rfl⟩;rw [hce] at HCP HCD HQG2 HCE;simp only at HCP HCD HQG2;clear hce;have HSZ2:=Z ((HSZ.out.step (p:=q) hab.1 HKL.out (fun d e=>by have:=HCP.out d e;omega)).1 ce HCD.out);unfold mG at HQ1;simp only [eJ] at HQ1;have HX10:=Z (ag (w0:=w9) (g:=w9.heap.size) (o:=dj ⟨x3,[],0⟩) rfl);have HS10:=Z (HS9.out.alloc (dj ⟨x3,[],0⟩));have HC10:=Z (HC9.out.alloc (dj ⟨x3,[],0⟩));have hg9:=HC9.out.size;have HF2:=Z (fun w=>jH l p3 w hl6);have HP2:=Z (fun w=>kR l p3 x3 w hl6 (by omega));go_wp2_with fail;refine HQ1.out.mono ?_;rintro e w10 ⟨rfl,rfl⟩;clear HQ1;obtain ⟨pv,hpv⟩:∃ v,v=eW p3:=⟨_,rfl⟩;rw [<- hpv] at HF2 HP2 ⊢;clear hpv;go_upto_region 24 with fail
          generalize hq1:w9.alloc (.cells #[.int .i64 x3,.string ⟨#[]⟩,.int .i64 0] 119)=w10 at *;have hq2:w9.alloc (dj ⟨x3,[],0⟩)=w10:=hq1;rw [hq2] at HX10 HS10 HC10;have HOW:=Z (And.intro (fun k hk=>(HS9.out.k.lt k hk).2) (And.intro (fun k hk=>(HS9.out.c.lt k hk).2) (fun k hk=>(HS9.out.d.lt k hk).2)));clear hq1 hq2 a0 a1 a2 a3 a4;have hgc:w3.heap.size<=w9.heap.size:=hg9;generalize w9.heap.size=gc at *;obtain ⟨e0,e1,e2,e3,e4,e5,e6⟩:=aN HX10.out;go_upto_if 112 with fail
          clear e0 e1 e2 e3 e4 e5 e6;go_cut [6,18,19,20,21] from 112 to 131 (fun v _ _ _ _ wc=>v=.int .i64 (eW q)/\wc.heap[gc]?=some (dj ce)/\Ch (fun k=>k=gc) w10 wc)
          case first=>
           obtain ⟨e0,e1,e2,e3,e4,e5,e6⟩:=aN HX10.out;by_cases h40:40<x3
           ·have h41:(40:Int)<(x3:Int):=by omega
            rw [if_pos h40] at HCE;obtain ⟨⟨xp,p4⟩,hx4⟩:∃ x,fG l p3=x:=⟨_,rfl⟩;rw [hx4] at HF2 HCE;unfold mG at HF2;simp only at HF2;have HCE2:=Z (show ce=⟨x3,[],xp⟩/\q=p4 from ⟨(Prod.mk.inj HCE.out).1,(Prod.mk.inj HCE.out).2⟩);clear hx4;obtain ⟨pw,hpw⟩:∃ v,v=eW p4:=⟨_,rfl⟩;rw [<- hpw] at HF2;have HPW:=Z hpw;clear hpw;go_wp2_with fail;refine (HF2.out w10).mono ?_;rintro e w11 ⟨rfl,rfl⟩;go_wp2_with fail;go_meet
            case rel=>exact ⟨by rw [HPW.out,HCE2.out.2],by rw [HCE2.out.1];exact ai HX10.out 2 _,(Ch.refl (fun j=>j=gc) w10).setCell (p:=⟨gc,2,none⟩) rfl _⟩
           ·have h41:¬ (40:Int)<(x3:Int):=by omega
            have h42:(x3:Int)<=40:=by omega
            rw [if_neg h40] at HCE;obtain ⟨⟨dt,p4⟩,hx4⟩:∃ x,ci l p3 x3=x:=⟨_,rfl⟩;rw [hx4] at HP2 HCE;unfold mF at HP2;simp only at HP2;have HCE2:=Z (show ce=⟨x3,dt,0⟩/\q=p4 from ⟨(Prod.mk.inj HCE.out).1,(Prod.mk.inj HCE.out).2⟩);clear hx4;obtain ⟨pw,hpw⟩:∃ v,v=eW p4:=⟨_,rfl⟩;rw [<- hpw] at HP2;have HPW:=Z hpw;clear hpw;go_wp2_with fail;refine (HP2.out w10).mono ?_;rintro e w11 ⟨rfl,rfl⟩;go_wp2_with fail;go_meet
            case rel=>exact ⟨by rw [HPW.out,HCE2.out.2],by rw [HCE2.out.1];exact ai HX10.out 1 _,(Ch.refl (fun j=>j=gc) w10).setCell (p:=⟨gc,1,none⟩) rfl _⟩
          case rest=>
           obtain ⟨rfl,hxc,hcc⟩:=hcut;have HXC:=Z hxc;have hle:w10.heap.size<=wc.heap.size:=hcc.size
           have HS11:=Z (show QSt w3.heap.size (w.heap.size+1) { n with keys:=n.keys ++ [key] } (.slice A8 (n.keys.length+1) c8) (.slice A2 n.cells.length c2) (.slice A3 n.kids.length c3) wc from
            ⟨hcc.keep HS10.out.g (by omega),HS10.out.k.ch hcc (fun j hj e=>by have:=HOW.out.1 j hj;omega),HS10.out.c.ch hcc (fun j hj e=>by have:=HOW.out.2.1 j hj;omega),HS10.out.d.ch hcc (fun j hj e=>by have:=HOW.out.2.2 j hj;omega),HS10.out.kc,HS10.out.kd,HS10.out.cd,HS10.out.h1⟩)
           have HC11:=Z (HC10.out.then hcc (fun i e=>.inr (by omega)));clear hxc hcc HOW;obtain ⟨e0,e1,e2,e3,e4,e5,e6⟩:=aN HXC.out;obtain ⟨a0,a1,a2,a3,a4⟩:=aa HS11.out.g;have fz:=ab HS11.out.g 2;have hnc:n.cells.length<=1000:=by have:=HSZ.out.sum;have:=HSZ.out.c;omega
           obtain ⟨pv2,hpv⟩:∃ v,v=eW q:=⟨_,rfl⟩;have HPV:=Z hpv;rw [<- hpv];clear hpv;go_wp2_with (at_builtin;refine Hid.out ?_);refine Z ?_;refine al (xs:=n.cells) (ys:=[ce]) rfl rfl iL rfl rfl (HS11.out.c.alloc _) (Sl.one (ce:Ce) (by simp) bx rfl) (by simp [maxLen];omega) (by simp;omega) (by have:=HC11.out.size;simp;omega) ?_;intro v' w12 ho hg hat;have HG12:=Z (bb (HS11.out.alloc _).g hg (fun k hk=>(HS11.out.c.lt k hk).1) HS11.out.h1);have HS13:=Z ((HS11.out.alloc _).AW ho hg hat);obtain ⟨A12,c12,h12⟩:=rE ho;subst h12;have HC12:=Z ((HC11.out.alloc _).then (Ch.zL (S:=fun k=>w3.heap.size<=k) hg (fun k hk=>(HS11.out.c.lt k hk).1)) (fun i e=>.inr e));clear ho hg hat a0 a1 a2 a3 a4 fz e0 e1 e2 e3 e4 e5 e6;obtain ⟨e0,e1,e2,e3,e4⟩:=aa HG12.out;have ez:=ab HG12.out 2;go_wp2_with fail;go_roundw
           case rel=>exact ⟨c,q,_,_,_,_,by omega,by rw [HPV.out],by rw [<- HM0.out];go_num,HQG2.out,HSZ2.out,HLN.out,HS13.out,HC12.out.setCell (p:=⟨w.heap.size+1,2,none⟩) rfl _⟩
           case measure=>simp [intOf];omega
end Go.Proofs.YtknioodagnjchaaGreatDoor
