import Derived.Test.YtlcebdaghmdkeaaGreatDoorStageE
import Derived.Test.YtlcebdaghmdkeaaGreatDoorZ40
set_option linter.all false
set_option maxRecDepth 100000
set_option maxHeartbeats 64000000
namespace Go.Proofs.YtlcebdaghmdkeaaGreatDoor
open Go.RowKit
theorem Oh {im:ah} {xs:List (Int×Int)} {s:St} {now o:Int} {r:St} (h:eI im xs s now o=(r,0)) (hs:s.si<=now):r.si<=now/\ (im=s.cm->s.ph=4->r=s):=by
 obtain⟨hG,hT,h0,h1,ho0,p5,hc⟩:=Bu h;have hT':=hT;simp only [gD,decide_eq_true_eq] at hT';have hcs:(bC im s).si<=now:=by
  simp only [bC]
  split
  ·exact hs
  ·exact h0
 have hsp:0<= (bC im s).sp:=by simp only [bC];split<;>grind
 have xQ:im=s.cm->bC im s=s:=fun e=>by rw [bC,if_pos (by rw [e])]
 rcases hc with⟨ha,hb,rfl⟩|⟨ha,⟨hp2,mI,rfl⟩|⟨hp,⟨rfl,rfl⟩|⟨rfl,rfl⟩|⟨ho,hr⟩⟩⟩
 ·exact⟨h0,fun e=>absurd (by rw [e]) ha⟩
 ·exact⟨hcs,fun e _=>xQ e⟩
 ·exact⟨h0,fun e h4=>by rw [xQ e] at hp;omega⟩
 ·exact⟨h0,fun e h4=>by rw [xQ e] at hp;omega⟩
 ·refine⟨?_,fun e h4=>by rw [xQ e] at hp;omega⟩
  obtain⟨k,hk⟩:=Int.eq_ofNat_of_zero_le hsp;have hk':(bC im s).sp.toNat=k:=by omega
  rw [hk'] at hr;have he:=zy xs now _ k (bC im s) o (Nat.le_refl _) hk;rw [<-hr] at he;rcases he with hd|⟨j,hj,wt,si,hkj,hx,kW,hw,cP⟩
  ·rw [hd];exact h0
  ·rw [kW]
   rcases cP with h|h
   ·simp only;omega
   ·have:=h.2.2.2.1
    simp only;omega
def BS (s:Sv):Prop:=∀t∈s.ay,t.st.si<=s.time
theorem Wm {s:Sv} (ho:Ok s) {u:Th} (hu:u∈s.ay) {time:Int} (t0:0<=time) (t1:time<=1099511627776):eI (kC (cy u.v)) (fK (cy u.v)) u.st time 0=((u.ord time 0).st,0):=by
 have hk:=ho.ay u hu;have h0:=Iq (o:=0) (vS hk.spec).1 hk.st t0 t1 (by decide) (by decide);unfold Th.ord Th.next
 rw [if_pos h0];exact EX _ _ _ _ _ h0
theorem agt {s s':Sv} {a:Ac} {r:Rp} (ho:Ok s) (cP:BS s) (h:Step s a s' r):BS s':=by
 obtain⟨t0,t1⟩:=ho.time;have Wn:∀u∈s.ay,∀time o,s.time<=time-> (u.ord time o).st.si<=time:=fun u hu time o hle=>by
  unfold Th.ord
  split
  ·rename_i h0
   exact(Oh (EX _ _ _ _ _ h0) (Int.le_trans (cP u hu) hle)).1
  ·exact Int.le_trans (cP u hu) hle
 have Wo:∀u:Th,u.st.si<=s.time->gD u.st=true->∀v ows,cy v≠none-> (u.kept v ows s.time s.last).st.si<=s.time:=fun u h1 h2 v ows hs=>
  (Oh (EX _ _ _ _ _ (Iq (vS hs).1 h2 t0 t1 (by decide) (by decide))) h1).1
 intro t ht;have hle:s.time<=s'.time:=by cases h<;> (try simp only [Sv.on])<;>omega
 cases h with
 |full h=>exact cP t ht
 |no e h he=>exact cP t ht
 |get h hk k hl hn hp=>exact cP t ht
 |tick h hk g1 g2=>obtain⟨u,hu,rfl⟩:=List.mem_map.1 ht;exact Wn u hu _ _ hle
 |del h hk k hl hn=>
  rcases List.mem_append.1 ht with ht|ht
  ·exact cP t (List.mem_of_mem_take ht)
  ·exact cP t (List.mem_of_mem_drop ht)
 |ord h hk k hl hn h0=>
  rcases mem_set ht with rfl|ht
  ·exact Wn _ (List.getElem_mem hl) _ _ (Int.le_refl _)
  ·exact cP t ht
 |keep h hk k hl hn hv v ows hc hs=>
  rcases mem_set ht with rfl|ht
  ·exact Wo _ (cP _ (List.getElem_mem hl)) (ho.ay _ (List.getElem_mem hl)).st v ows hs
  ·exact cP t ht
 |zQ h hk hh hn hl v ows hc hs=>
  obtain⟨hst,-⟩:=VN (vS hs).1;rcases List.mem_append.1 ht with ht|ht
  ·exact cP t (List.mem_of_mem_take ht)
  ·rcases List.mem_cons.1 ht with rfl|ht
   ·refine Wo (nR a.name v) ?_ hst v ows hs
    unfold nR vJ;rw [if_pos (vS hs).1];exact t0
   ·exact cP t (List.mem_of_mem_drop ht)
theorem VC:∀(l:List Ac) {s:Sv},Ok s->BS s->BS (fq s l)
 | [],_,_,h=>h
 |a::r,s,ho,h=>by have:=VC r (ho.next a) (agt ho h (ho.so a));exact this
def vR:Ac:=⟨8,⟨#[]⟩,⟨#[]⟩,⟨#[]⟩,0,1073741824,0,false⟩
def j4 (s:Sv):Nat->Sv
 |0=>s
 |n+1=>(bz (j4 s n) vR).1
theorem I1 {s:Sv} (ha:s.acts<300) (ht:s.time+1073741824<=1099511627776):bz s vR=(⟨s.ay.map fun t=>t.ord (s.time+1073741824) 0,s.time+1073741824,s.last,s.acts+1⟩, .no 0):=by
 unfold bz;rw [if_neg (by omega)];unfold uy;rw [if_neg (by decide),if_pos (show vR.k=8 from rfl)];unfold nO;dsimp only;rw [if_neg (show¬(vR.n<1\/1099511627776-s.time<vR.n) by show¬((1073741824:Int)<1\/1099511627776-s.time<1073741824);omega)];rfl
theorem EU {s:Sv} (ho:Ok s):∀n,Ok (j4 s n)
 |0=>ho
 |n+1=>(EU ho n).next _
theorem Oi {s:Sv} (ha:s.acts<=200) (ht:s.time<=274877906944):∀n,n<=10-> (j4 s n).acts=s.acts+n/\ (j4 s n).time=s.time+n*1073741824
 |0,_=>by simp [j4]
 |n+1,h=>by obtain⟨h1,h2⟩:=Oi ha ht n (by omega);rw [j4,I1 (by omega) (by omega)];simp only;omega
theorem afQ {s:Sv} (ha:s.acts<=200) (ht:s.time<=274877906944) {n:Nat} (h:n<10):(bz (j4 s n) vR).2= .no 0:=by
 obtain⟨h1,h2⟩:=Oi ha ht n (by omega);rw [I1 (by omega) (by omega)]
theorem Wp {s:Sv} (ho:Ok s) (cP:BS s) (ha:s.acts<=200) (ht:s.time<=274877906944):∀n,n<10->∀t∈ (j4 s (n+1)).ay,t.st.ph≠4->Bt (fK (cy t.v))->Onto (kC (cy t.v)) (fK (cy t.v)) (j4 s (n+1)).time n t.st
 |0,_,t,hm,h4,hp=>by
  have e:j4 s 1=(bz s vR).1:=rfl;rw [e,I1 (by omega) (by omega)] at hm⊢;obtain⟨u,hu,rfl⟩:=List.mem_map.1 hm;have hk:=ho.ay u hu;have hn:=Wm ho hu (time:=s.time+1073741824) (by have:=ho.time.1;omega) (by omega);have hv:(u.ord (s.time+1073741824) 0).v=u.v:=by unfold Th.ord;split<;>rfl
  rw [hv] at hp⊢;dsimp only;refine ad8 hn hp (by have:=cP u hu;omega) ?_;rintro⟨h1,h2⟩;have:=(Oh hn (by have:=cP u hu;omega)).2 (EY h2) h1;rw [this] at h4;exact h4 h1
 |n+1,hlt,t,hm,h4,hp=>by
  obtain⟨h1,h2⟩:=Oi ha ht (n+1) (by omega);have hO:=EU ho (n+1);have ih:=Wp ho cP ha ht n (by omega);have e:j4 s (n+1+1)=(bz (j4 s (n+1)) vR).1:=rfl;rw [e,I1 (by omega) (by omega)] at hm⊢;obtain⟨u,hu,rfl⟩:=List.mem_map.1 hm;have hk:=hO.ay u hu;have hT:=hO.time.1;have hn:=Wm hO hu (time:=(j4 s (n+1)).time+1073741824) (by omega) (by omega);have hv:(u.ord ((j4 s (n+1)).time+1073741824) 0).v=u.v:=by unfold Th.ord;split<;>rfl
  rw [hv] at hp⊢;have nQ:u.st.ph≠4:=fun q=>by
   have hc:=N6 hn;have h5:(u.ord ((j4 s (n+1)).time+1073741824) 0).st=u.st:=by
    obtain⟨hG,hT',q0,q1,o0,o1,hcc⟩:=Bu hn;have xQ:bC (kC (cy u.v)) u.st=u.st:=by rw [bC,if_pos (by rw [hk.cm])]
    rw [xQ] at hcc;rcases hcc with⟨ha',hb,hr⟩|⟨ha',⟨hp2,mI,hr⟩|⟨hp',hr⟩⟩
    ·exact absurd (by rw [hk.cm]) ha'
    ·exact hr
    ·omega
   rw [h5] at h4;exact h4 q
  obtain⟨r,hr,wH⟩:=aea (vS hk.spec).1 hp (ih u hu nQ hp) hT (by omega);rw [hn] at hr;simp only [Prod.mk.injEq,and_true] at hr;rw [<-hr] at wH;exact wH
theorem afR {s:Sv} (ho:Ok s) (cP:BS s) (ha:s.acts<=200) (ht:s.time<=274877906944) {t:Th} (hm:t∈ (j4 s 10).ay) (h4:t.st.ph≠4) (hp:Bt (fK (cy t.v))):t.st.ph=1/\t.st.sb=kC (cy t.v):=by
 have hk:=(EU ho 10).ay t hm;obtain⟨h1,h2,hd|⟨h3,k,hk1,hk2,hk3,-⟩⟩:=Wp ho cP ha ht 9 (by omega) t hm h4 hp
 ·rw [hd]
  exact⟨rfl,EY h2⟩
 ·have:=(Ir (vS hk.spec).1).2.2.1
  omega
end Go.Proofs.YtlcebdaghmdkeaaGreatDoor
