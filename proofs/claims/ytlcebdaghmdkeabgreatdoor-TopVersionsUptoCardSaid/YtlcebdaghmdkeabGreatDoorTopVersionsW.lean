import Derived.Test.YtlcebdaghmdkeabGreatDoorZ45
set_option linter.all false
set_option maxRecDepth 100000
set_option maxHeartbeats 64000000
namespace Go.Proofs.YtlcebdaghmdkeabGreatDoor
open Go.Proofs.Tryz
open Go.RowKit
attribute [local go_sem↓] Go.wp_at_zero Go.wp_at_succ
theorem afQ (s s':Sv) (x:Ac) (y:Rp) (P T:az) (r B:Nat) (L:Int) (wa:au) (wc:Nat) (w:World) (hok:Ok s) (fL:Ok s') (hst:Step s x s' y) (hS:Sat w P r s') (hT:jk w T s.ax wa)
 (hB:af w B #[.int .i64 L] 3) (hL:L<=s.last) (hTB:¬T B):
 Calls prog 13 #[.pointer (some ⟨r,0,none⟩), .slice wa s.ax.length wc, .agg #[.int .i64 x.k, .string x.name, .string x.who, .string x.body, .int .i64 x.ver, .int .i64 x.n, .int .i64 x.ord, .bool x.force],y.val, .pointer (some ⟨B,0,none⟩)] w fun e w2=>e= .returned (.bool true)/\aT (fun b=>b≠B) w w2/\∃L2,af w2 B #[.int .i64 L2] 3/\L2<=s'.last:=by
 have tE:=ae hok.inv;have tF:=ae fL.inv;have hlen:=hok.len;have hlen':=fL.len;have Iu:=ae (fun(o:Th) (hm:o∈s'.ax)=>(fL.ax o hm).gen.2.2);have BO:=ae (fun(o:Th) (hm:o∈s'.ax)=>afR hok hst hm);have hlast:s.last<=s'.last:=by
  cases hst<;> (try simp only [Sv.on])<;> (try split)<;>omega
 have HS:=ae hS;have HT:=ae hT;have hBl:=hB.lt;obtain⟨c,n,b⟩:=y;clear hok fL hst hS hT;obtain⟨hcB,Ee,hlB⟩:=hB.see;go_enter func13,ntmps13;go_wp2_with fail;(refine(zR P r s' _ (HS.out.ext Xt) hlen' (fun t ht=>by have h:=tF.out.size t ht;exact⟨h.1,h.2.1⟩)).mono ?_);rintro e w2 ⟨a2,c2,rfl,-,ye,h2⟩;have hx2:Ext w w2:=Xt;have hz2:=hx2.size;have BU:=ae (show jk w2 (fun b=>w.heap.size<=b) s'.ax a2 from ye.keep (fun _ _ _=>rfl) (Nat.le_refl _) fun b h=>by(try simp at h);omega);have ak:=hB.ext hx2;clear h2 ye HS hcB Ee hlB hB;go_wp2_with fail
 go_loopg [12,13,14,15,16,21] s'.ax.length (fun g _ _ _ _ _ i wr=>∃(k:Nat) (L2:Int),k<=s'.ax.length/\i= .int .i64 k/\g=s'.ax.length-k/\af wr B #[.int .i64 L2] 3/\L2<=s'.last/\aT (fun b=>b≠B) w2 wr)
 case atStart=>exact⟨0,L,by omega,rfl,rfl,aQ,by omega,(show Ext w2 _ from Xt).upd _⟩
 case round=>
  clear ak;obtain⟨k,L2,hk,rfl,rfl,uG,hL2,hu⟩:=hrel;have yz:=hu.size;have N9:=ae ((hx2.upd fun b=>b≠B).trans hu);by_cases hlt:k<s'.ax.length
  ·obtain⟨b1,ka,kc,la,lc,oa,oc,rfl,hS1,hb1,hi1,d0,d1,d2,d3,d4,d5,d6,d7,d8,d9,d10,d11,d12,d13,d14⟩:=(BU.out.keep (T:=fun b=>w.heap.size<=b) (hu.kept.mono fun b h=>by omega) hu.size fun _ h=>h).cells hlt
   have HTr:=ae (HT.out.keep (T:=T) (N9.out.kept.mono fun b h e=>hTB (e▸h)) N9.out.size fun _ h=>h);have kY:(0:Int)<= (k:Int):=by omega
   have kZ:(k:Int)<(s'.ax.length:Int):=by omega
   have nO:=ae (BO.out _ (List.getElem_mem hlt));have qh:=ae (tF.out.size _ (List.getElem_mem hlt));have jH:=Iu.out _ (List.getElem_mem hlt);obtain⟨z,tG⟩:∃z,s'.ax[k]=z:=⟨_,rfl⟩;rw [tG] at d0 d1 d2 d3 d4 d5 d6 d7 d8 d9 d10 d11 d12 d13 d14 nO qh hi1 jH;have rE:=ae hi1;have hk1:k+1<=s'.ax.length:=hlt;have yf:s'.ax.length-(k+1)<s'.ax.length-k:=by omega
   clear hi1 tG;go_upto_region 5 with fail
   refine aI (R:=fun wx=>fu wx wr.heap.size z ka kc la lc oa oc/\af wx B #[.int .i64 L2] 3/\Ext wr wx) ⟨aQ,aQ,Xt⟩ ?_;clear d0 d1 d2 d3 d4 d5 d6 d7 d8 d9 d10 d11 d12 d13 d14 uG;rintro wb ⟨ak,uG,aO⟩;obtain⟨hc2,hf2,hl2⟩:=ak.see;go_wp2_with fail;(refine(BQ s.ax wa _ wc z.name T _ (HTr.out.ext Xt) rfl (by omega)).mono ?_);rintro e w3 ⟨h3,oQ⟩;have hx3:Ext wr w3:=Xt;have hB2':=af.ext (w':=w3) Xt ak;have Oa:=af.ext (w':=w3) Xt uG;have ahR:=hB2'.lt;have ahS:=Oa.lt;clear h3 hc2 hf2 hl2 ak uG aO;rcases oQ with⟨u,kb,kd,lb,ld,ob,od,hf,rfl,bf⟩|⟨hf,rfl⟩
   ·have Hu:=ae bf
    have Hw:=ae (nO.out.2 u hf);have IK:=ae (tE.out.size u (z7 hf).1);clear hf bf;go_upto_region 6 with fail
    refine aI (R:=fun wx=>fu wx wr.heap.size z ka kc la lc oa oc/\fu wx w3.heap.size u kb kd lb ld ob od/\af wx B #[.int .i64 L2] 3/\Ext w3 wx) ⟨aQ,aQ,aQ,Xt⟩ ?_;clear hB2' Oa;rintro wd ⟨ak,aV,uG,dG⟩;have Ab:=ae (rE.out.ext (hx3.trans dG));replace Hu:=ae (Hu.out.ext dG);have hzz:z.v.size<=1073741824:=by have:=qh.out.1;omega
    have Ob:u.v.size<=1073741824:=by have:=IK.out.1;omega
    have Oc:cw u.ows<=1073741824:=by have:=IK.out.2.1;omega
    have aq:∀w',Ext wd w'-> (w'.cell? ⟨w3.heap.size,1,none⟩=some (.int .i64 u.v.k)/\w'.cell? ⟨w3.heap.size,2,none⟩=some (.int .i64 u.v.n)/\w'.cell? ⟨w3.heap.size,3,none⟩=some (.string u.v.s)/\w'.cell? ⟨w3.heap.size,4,none⟩=some (.slice kb u.v.keys.length kd)/\w'.cell? ⟨w3.heap.size,5,none⟩=some (.slice lb u.v.l.length ld)/\w'.cell? ⟨w3.heap.size,6,none⟩=some (.slice ob u.ows.length od)/\w'.cell? ⟨wr.heap.size,1,none⟩=some (.int .i64 z.v.k)/\w'.cell? ⟨wr.heap.size,2,none⟩=some (.int .i64 z.v.n)/\w'.cell? ⟨wr.heap.size,3,none⟩=some (.string z.v.s)/\w'.cell? ⟨wr.heap.size,4,none⟩=some (.slice ka z.v.keys.length kc)/\w'.cell? ⟨wr.heap.size,5,none⟩=some (.slice la z.v.l.length lc)/\w'.cell? ⟨wr.heap.size,6,none⟩=some (.slice oa z.ows.length oc)):=fun w' e=>⟨e.cell (aV.cells 1),e.cell (aV.cells 2),e.cell (aV.cells 3),e.cell (aV.cells 4),e.cell (aV.cells 5),e.cell (aV.cells 6),e.cell (ak.cells 1),e.cell (ak.cells 2),e.cell (ak.cells 3),e.cell (ak.cells 4),e.cell (ak.cells 5),e.cell (ak.cells 6)⟩;refine lO aq (by kernel_rfl) (aq _ Xt) (fun hHeld=> ?_);refine aB 0 (h:= ?_);refine aB 1 (h:= ?_);refine aB 2 (h:= ?_);refine aB 3 (h:= ?_);refine aB 5 (h:= ?_);refine aB 6 (h:= ?_);refine aB 7 (h:= ?_);refine aB 8 (h:= ?_);(try simp only [rl]);refine fJ 4 (h:=fun K hK=> ?_);(try simp only [rl]);(try go_simp);(refine(xq u.v z.v kb kd lb ld T ka kc la lc (fun b=>w.heap.size<=b) _ Ob hzz (Hu.out.v.ext Xt) (Ab.out.v.ext Xt)).mono ?_);rintro e w4 ⟨rfl,h4⟩;have bH:Ext wd w4:=Xt;clear h4;(try go_simp);refine hK.out _ _ (aq _ Xt) (fun hHeld=> ?_);clear hK K;(try simp only [rl]);refine fJ 9 (h:=fun K hK=> ?_);(try simp only [rl]);(try go_simp);(refine(VU u.ows z.ows ob oa _ _ od oc T (fun b=>w.heap.size<=b) _ (Hu.out.ows.ext Xt) (Ab.out.ows.ext Xt) rfl rfl Oc).mono ?_);rintro e w5 ⟨b2,rfl,hr2,h5⟩;have iO:=ae hr2;have aZ:Ext wd w5:=Xt;clear h5 hr2;(try go_simp);refine hK.out _ _ (aq _ Xt) (fun hHeld=> ?_);clear hK K;(try simp only [rl]);refine aB 10 (h:= ?_);refine aB 11 (h:= ?_);(try simp only [rl]);refine wpAnyH_done (by kernel_rfl) ?_ _;have bK:Ext wr w5:=hx3.trans (dG.trans aZ);have Od:=ak.ext aZ;have Oe:=aV.ext aZ;have Og:=uG.ext aZ;have fA:=bK.size;clear aq hHeld ak aV uG Ab bH;obtain⟨hc2,hf2,hl2⟩:=Od.see;obtain⟨hc3,hf3,aR⟩:=Oe.see;obtain⟨hcB,Ee,hlB⟩:=Og.see;have hup:aT (fun b=>b≠B) w2 w5:=hu.ext bK;have v1:z.v.same u.v=true↔z.v=u.v:=ve _ _;by_cases e1:u.v.same z.v=true/\b2=true
    ·obtain⟨e1,rfl⟩:=e1
     have ev:u.v=z.v:=(ve _ _).1 e1;have eo:u.ows=z.ows:=iO.out.1 rfl;obtain⟨g1,g2⟩:=Hw.out.1 ev.symm eo.symm;have q1:(z.ver !=u.ver)=false:=by simp [g1]
     have q2:(z.gen !=u.gen)=false:=by simp [g2]
     clear ev eo g1 g2 v1;go_wp2_with fail;go_roundg (s'.ax.length-(k+1))
     case measure=>exact yf
     case rel=>exact⟨k+1,_,hk1,by go_num,rfl,aQ,by(first|exact hL2|omega),fy⟩
    ·obtain⟨g1,g2⟩:=Hw.out.2 (fun h=>e1 ⟨(ve _ _).2 h.1.symm,iO.out.2 h.2.symm⟩)
     have hA:¬z.ver<=L:=by omega
     have hA2:L<z.ver:=by omega
     have hmx:max L2 z.ver<=s'.last:=by omega
     have Hg:=ae g2;have He:=ae e1;have hsm:u.v.same z.v=true↔u.v=z.v:=ve _ _;clear g1 g2 e1 v1;obtain⟨sv,fR⟩:∃b,u.v.same z.v=b:=⟨_,rfl⟩;rw [fR] at He hsm⊢;have wF:=ae hsm;clear fR hsm;have hg0:0<=u.gen:=IK.out.2.2.1;have hg1:u.gen<=1000000:=IK.out.2.2.2;by_cases q1:z.gen=u.gen+1
     ·have r1:(z.gen !=u.gen+1)=false:=by simp [q1]
      clear q1
      cases sv<;>cases b2
      ·go_wp2_with fail
       go_roundg (s'.ax.length-(k+1))
       case measure=>exact yf
       case rel=>exact⟨k+1,max L2 z.ver,hk1,by go_num,rfl,aQ,hmx,fy⟩
      ·go_wp2_with fail
       go_roundg (s'.ax.length-(k+1))
       case measure=>exact yf
       case rel=>exact⟨k+1,max L2 z.ver,hk1,by go_num,rfl,aQ,hmx,fy⟩
      ·go_wp2_with fail
       go_roundg (s'.ax.length-(k+1))
       case measure=>exact yf
       case rel=>exact⟨k+1,max L2 z.ver,hk1,by go_num,rfl,aQ,hmx,fy⟩
      ·exact absurd ⟨rfl,rfl⟩ He.out
     ·have r1:(z.gen !=u.gen+1)=true:=by simp [q1]
      obtain⟨g3,g4⟩:=Hg.out.resolve_left q1;obtain rfl:sv=true:=wF.out.2 g3.symm;have r2:(z.gen==u.gen)=true:=by simp [g4]
      clear q1 g3 g4
      cases b2
      ·go_wp2_with fail
       go_roundg (s'.ax.length-(k+1))
       case measure=>exact yf
       case rel=>exact⟨k+1,max L2 z.ver,hk1,by go_num,rfl,aQ,hmx,fy⟩
      ·exact absurd ⟨rfl,rfl⟩ He.out
   ·have Hw:=ae (nO.out.1 hf)
    clear hf;go_upto_region 6 with fail
    refine aI (R:=fun wx=>fu wx wr.heap.size z ka kc la lc oa oc/\af wx w3.heap.size #[.string ⟨#[]⟩, .int .i64 0, .int .i64 0, .string ⟨#[]⟩, .slice none 0 0, .slice none 0 0, .slice none 0 0, .int .i64 0, .int .i64 0, .string ⟨#[]⟩, .string ⟨#[]⟩, .int .i64 0, .int .i64 0, .int .i64 0, .int .i64 0] 41/\af wx B #[.int .i64 L2] 3/\Ext w3 wx) ⟨aQ,aQ,aQ,Xt⟩ ?_;clear hB2' Oa;rintro wd ⟨ak,aV,uG,dG⟩;have Ab:=ae (rE.out.ext (hx3.trans dG));have hzz:z.v.size<=1073741824:=by have:=qh.out.1;omega
    have Ob:V.zero.size<=1073741824:=by rw [V.size_eq];decide
    have Oc:cw []<=1073741824:=by simp [cw]
    have aq:∀w',Ext wd w'-> (w'.cell? ⟨w3.heap.size,1,none⟩=some (.int .i64 0)/\w'.cell? ⟨w3.heap.size,2,none⟩=some (.int .i64 0)/\w'.cell? ⟨w3.heap.size,3,none⟩=some (.string ⟨#[]⟩)/\w'.cell? ⟨w3.heap.size,4,none⟩=some (.slice none 0 0)/\w'.cell? ⟨w3.heap.size,5,none⟩=some (.slice none 0 0)/\w'.cell? ⟨w3.heap.size,6,none⟩=some (.slice none 0 0)/\w'.cell? ⟨wr.heap.size,1,none⟩=some (.int .i64 z.v.k)/\w'.cell? ⟨wr.heap.size,2,none⟩=some (.int .i64 z.v.n)/\w'.cell? ⟨wr.heap.size,3,none⟩=some (.string z.v.s)/\w'.cell? ⟨wr.heap.size,4,none⟩=some (.slice ka z.v.keys.length kc)/\w'.cell? ⟨wr.heap.size,5,none⟩=some (.slice la z.v.l.length lc)/\w'.cell? ⟨wr.heap.size,6,none⟩=some (.slice oa z.ows.length oc)):=fun w' e=>⟨e.cell (aV.cells 1),e.cell (aV.cells 2),e.cell (aV.cells 3),e.cell (aV.cells 4),e.cell (aV.cells 5),e.cell (aV.cells 6),e.cell (ak.cells 1),e.cell (ak.cells 2),e.cell (ak.cells 3),e.cell (ak.cells 4),e.cell (ak.cells 5),e.cell (ak.cells 6)⟩;refine lO aq (by kernel_rfl) (aq _ Xt) (fun hHeld=> ?_);refine aB 0 (h:= ?_);refine aB 1 (h:= ?_);refine aB 2 (h:= ?_);refine aB 3 (h:= ?_);refine aB 5 (h:= ?_);refine aB 6 (h:= ?_);refine aB 7 (h:= ?_);refine aB 8 (h:= ?_);(try simp only [rl]);refine fJ 4 (h:=fun K hK=> ?_);(try simp only [rl]);(try go_simp);(refine(xq V.zero z.v none 0 none 0 (fun _=>False) ka kc la lc (fun b=>w.heap.size<=b) _ Ob hzz (V.mJ _ _) (Ab.out.v.ext Xt)).mono ?_);rintro e w4 ⟨rfl,h4⟩;have bH:Ext wd w4:=Xt;clear h4;(try go_simp);refine hK.out _ _ (aq _ Xt) (fun hHeld=> ?_);clear hK K;(try simp only [rl]);refine fJ 9 (h:=fun K hK=> ?_);(try simp only [rl]);(try go_simp);(refine(VU ([]:List Ow) z.ows none oa _ _ 0 oc (fun _=>False) (fun b=>w.heap.size<=b) _ (.inl rfl) (Ab.out.ows.ext Xt) rfl rfl Oc).mono ?_);rintro e w5 ⟨b2,rfl,hr2,h5⟩;have iO:=ae hr2;have aZ:Ext wd w5:=Xt;clear h5 hr2;(try go_simp);refine hK.out _ _ (aq _ Xt) (fun hHeld=> ?_);clear hK K;(try simp only [rl]);refine aB 10 (h:= ?_);refine aB 11 (h:= ?_);(try simp only [rl]);refine wpAnyH_done (by kernel_rfl) ?_ _;have bK:Ext wr w5:=hx3.trans (dG.trans aZ);have Od:=ak.ext aZ;have Oe:=aV.ext aZ;have Og:=uG.ext aZ;have fA:=bK.size;clear aq hHeld ak aV uG Ab bH;obtain⟨hc2,hf2,hl2⟩:=Od.see;obtain⟨hc3,hf3,aR⟩:=Oe.see;obtain⟨hcB,Ee,hlB⟩:=Og.see;have hup:aT (fun b=>b≠B) w2 w5:=hu.ext bK;have hA:¬z.ver<=L:=by have:=Hw.out.2;omega
    have hg:(z.gen !=1)=false:=by simp [Hw.out.1]
    have hA2:L<z.ver:=by have:=Hw.out.2;omega
    have hmx:max L2 z.ver<=s'.last:=by omega
    go_wp2_with fail;go_roundg (s'.ax.length-(k+1))
    case measure=>exact yf
    case rel=>exact⟨k+1,max L2 z.ver,hk1,by go_num,rfl,aQ,hmx,fy⟩
  ·go_wp2_with fail
   go_ret;exact⟨rfl,N9.out.ext Xt,L2,aQ,hL2⟩
end Go.Proofs.YtlcebdaghmdkeabGreatDoor
