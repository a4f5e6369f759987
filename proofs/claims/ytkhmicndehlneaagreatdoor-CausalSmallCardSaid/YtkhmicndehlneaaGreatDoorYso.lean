/- Part 15 of the walks and plain laws that this claim uses, joined. Conditions: as each theorem states. -/
import Derived.Test.YtkhmicndehlneaaGreatDoorYsn
namespace Go.Proofs.YtkhmicndehlneaaGreatDoor
set_option maxRecDepth 100000
set_option maxHeartbeats 16000000
section
open Go.RowKit Go.Lib Go.Sort
set_option linter.unusedVariables false
attribute [local go_sem ↓] Go.wp_at_zero Go.wp_at_succ
theorem rbready_any {B P:Nat} {S S2:Nat→Prop} {b:Bx} {X:RbX} {w:World} (h:RbIn B P S b.done b.wait X w) (ho:RbOk b) (g:Grp) (x:GrX) (hG:GrG w S2 (g,x)) (hdl:g.deps.length≤1000):
  Calls Tryz.prog 68 #[.pointer (some ⟨P,0,none⟩),.agg (grA g x.dA x.dc x.oA x.oc)] w fun e w'=>e= .returned (.bool (readyB b.v g))∧Below w.heap.size w w':=by
 obtain⟨⟨t,r⟩,n,u,⟨ut,ur⟩,ops⟩:=g
 obtain⟨dA,dc,oA,oc⟩:=x
 obtain⟨ans,hans⟩:∃z,z=readyB b.v ⟨⟨t,r⟩,n,u,⟨ut,ur⟩,ops⟩:=⟨_,rfl⟩
 rw[←hans]
 have hb0:Below w.heap.size w (w.alloc (.cells #[.int .i64 t,.int .i64 r,.int .i64 n,.slice dA u.length dc,.int .i64 ut,.int .i64 ur,.slice oA ops.length oc] 45)):=(Below.refl _ _).alloc (Nat.le_refl _) _
 have hul:u.length≤9223372036854775800:=by have h1:u.length≤1000:=hdl;omega
 have hVC:∀W,Below w.heap.size w W→Calls Tryz.prog 35 #[.pointer (some ⟨P,0,none⟩)] W fun e w'=>∃A' c',e= .returned (.slice A' b.v.length c')∧VecS w' (fun _=>True) A' b.v∧b.v.length≤16∧Below W.heap.size W w':=fun W hB=>rbvec_any (h.below hB) ho
 have hCV:∀W A' c',Below w.heap.size w W→VecS W (fun _=>True) A' b.v→b.v.length≤16→Calls Tryz.prog 38 #[.slice A' b.v.length c',.slice dA u.length dc] W fun e w'=>e= .returned (.bool ans)∧w'=W:=fun W A' c' hB hv hl=>by
  rw[hans];exact refcovers_any A' dA c' dc b.v u W (by omega) hul hv.vec (VecS.vec (show VecS W S2 dA u from RowG.agr hG.deps (Agr.below hB)))
 have HVC:=hid hVC
 have HCV:=hid hCV
 have HC:=hid (heap_alloc_new w (.cells #[.int .i64 t,.int .i64 r,.int .i64 n,.slice dA u.length dc,.int .i64 ut,.int .i64 ur,.slice oA ops.length oc] 45))
 have HB:=hid hb0
 show Calls _ _ #[.pointer (some ⟨P,0,none⟩),.agg #[.int .i64 t,.int .i64 r,.int .i64 n,.slice dA u.length dc,.int .i64 ut,.int .i64 ur,.slice oA ops.length oc]] _ _
 clear hVC hCV hG h ho hans hdl hb0
 go_enter Tryz.func68,Tryz.ntmps68
 go_upto_region 1 with fail
 generalize hW:w.alloc (.cells #[.int .i64 t,.int .i64 r,.int .i64 n,.slice dA u.length dc,.int .i64 ut,.int .i64 ur,.slice oA ops.length oc] 45)=W at *
 clear hW
 have hwW:w.heap.size<W.heap.size:=lt_of_block HC.out
 refine wp_region_held (S:=fun w'=>w'.heap[w.heap.size]? =some (.cells #[.int .i64 t,.int .i64 r,.int .i64 n,.slice dA u.length dc,.int .i64 ut,.int .i64 ur,.slice oA ops.length oc] 45 (0,0))) (by kernel_rfl) ?_
 try(change wpAnyH _ _ _ _ _ _ _ _ (World.drew _))
 refine tk 0 (.pointer (some ⟨P,0,none⟩)) ((show W.drew.heap[w.heap.size]? =_ from HC.out)) ?_
 go_simp
 refine tk 2 (.pointer (some ⟨w.heap.size,3,none⟩)) ((show W.drew.heap[w.heap.size]? =_ from HC.out)) ?_
 go_simp
 refine wpAnyH_take (i:=3) (v:= .slice dA u.length dc) rfl (by kernel_rfl) (by kernel_rfl) (by kernel_rfl) (fun _ _ _ h=>h) (Or.inl ⟨by rfl,fun W' hW'=>by(have c_:W'.cell? ⟨w.heap.size,3,none⟩=some (.slice dA u.length dc):=(by rw[crw hW'];rfl);go_simp)⟩) ((show W.drew.heap[w.heap.size]? =_ from HC.out)) ?_
 go_simp
 refine wpAnyH_ready (rs:=[1]) (by kernel_rfl) (by simp) ?_
 refine AllReadyH.cons rfl (fun K hK=> ?_) AllReadyH.nil
 go_simp
 have hbd:Below w.heap.size w W.drew:=HB.out.trans ((show Below W.heap.size W W.drew from⟨rfl,rfl,rfl,Nat.le_refl _,fun _ _=>rfl⟩).mono HB.out.size)
 refine(HVC.out W.drew hbd).mono ?_
 rintro e w1 ⟨A1,c1,rfl,hv1,hl1,hB1⟩
 have HC1:=hid ((hB1.block w.heap.size hwW).trans (show W.drew.heap[w.heap.size]? =_ from HC.out))
 have HB1:=hid (hbd.trans (hB1.mono hbd.size))
 have HV1:=hid hv1
 clear hB1 hv1
 go_simp
 refine hK.out _ _ (HC1.out) (fun _=> ?_)
 clear hK K
 refine wpAnyH_ready (rs:=[4]) (by kernel_rfl) (by simp) ?_
 refine AllReadyH.cons rfl (fun K hK=> ?_) AllReadyH.nil
 go_simp
 refine(HCV.out w1 A1 c1 HB1.out HV1.out hl1).mono ?_
 rintro e w2 ⟨rfl,rfl⟩
 go_simp
 refine hK.out _ _ (HC1.out) (fun _=> ?_)
 clear hK K
 refine tk 5 (.bool ans) HC1.out ?_
 go_simp
 refine wpAnyH_done (by kernel_rfl) ?_ _
 go_simp
 go_wp2
 go_ret
 exact⟨rfl,HB1.out⟩
theorem any_at {l:List (Grp×GrX)} {f:Grp→Bool} {k:Nat} (hk:k<l.length) (h:f (l.getD k gp0).1=true):(l.map Prod.fst).any f=true:=by
 rw[List.any_eq_true]
 refine⟨_,List.mem_map.2 ⟨l.getD k gp0,?_,rfl⟩,h⟩
 rw[List.getD_eq_getElem?_getD,List.getElem?_eq_getElem hk];exact List.getElem_mem hk
theorem any_none {l:List (Grp×GrX)} {f:Grp→Bool} (h:∀k,k<l.length→f (l.getD k gp0).1=false):(l.map Prod.fst).any f=false:=by
 rw[List.any_eq_false]
 intro x hx e
 obtain⟨p,hp,rfl⟩:=List.mem_map.1 hx
 obtain⟨k,hk,rfl⟩:=List.getElem_of_mem hp
 have:=h k hk
 rw[List.getD_eq_getElem?_getD,List.getElem?_eq_getElem hk] at this
 exact absurd e (by simp only[Option.getD_some] at this;rw[this];decide)
theorem rbstale_any {B P:Nat} {S:Nat→Prop} {b:Bx} {X:RbX} {w:World} (h:RbIn B P S b.done b.wait X w) (ho:RbOk b) (g:Grp) (x:GrX):
    Calls Tryz.prog 67 #[.pointer (some ⟨P,0,none⟩),.agg (grA g x.dA x.dc x.oA x.oc)] w fun e w'=>e= .returned (.bool (knownB b g))∧Below w.heap.size w w':=by
  obtain⟨⟨t,r⟩,n,u,⟨ut,ur⟩,ops⟩:=g
  obtain⟨dA,dc,oA,oc⟩:=x
  obtain⟨ans,hans⟩:∃z,z=knownB b ⟨⟨t,r⟩,n,u,⟨ut,ur⟩,ops⟩:=⟨_,rfl⟩
  rw[←hans]
  obtain⟨old,hold⟩:∃z,z=oldB b.v ⟨⟨t,r⟩,n,u,⟨ut,ur⟩,ops⟩:=⟨_,rfl⟩
  obtain⟨z,hz⟩:∃z,z=atV b.v r:=⟨_,rfl⟩
  have q1:decide (n≤z)=old:=by rw[hold,hz];rfl
  have HANS:=hid (show ans=((X.L.map Prod.fst).any (fun d=>d.s.eqb ⟨t,r⟩) || old || (X.M.map Prod.fst).any (fun a=>clashB a ⟨⟨t,r⟩,n,u,⟨ut,ur⟩,ops⟩)) by rw[hans,hold,h.dl,h.wl];rfl)
  have hb0:Below w.heap.size w (w.alloc (.cells #[.int .i64 t,.int .i64 r,.int .i64 n,.slice dA u.length dc,.int .i64 ut,.int .i64 ur,.slice oA ops.length oc] 45)):=(Below.refl _ _).alloc (Nat.le_refl _) _
  have hVC:∀W,Below w.heap.size w W→Calls Tryz.prog 35 #[.pointer (some ⟨P,0,none⟩)] W fun e w'=>∃A' c',e= .returned (.slice A' b.v.length c')∧VecS w' (fun _=>True) A' b.v∧b.v.length≤16∧Below W.heap.size W w':=fun W hB=>rbvec_any (h.below hB) ho
  have hAT:∀W A' c',VecS W (fun _=>True) A' b.v→b.v.length≤16→Calls Tryz.prog 55 #[.slice A' b.v.length c',.int .i64 r] W fun e w'=>e= .returned (.int .i64 z)∧w'=W:=fun W A' c' hv hl=>by
    rw[hz];exact refat_any A' c' b.v r W (by omega) hv.vec
  have HVC:=hid hVC
  have HAT:=hid hAT
  have HC:=hid (heap_alloc_new w (.cells #[.int .i64 t,.int .i64 r,.int .i64 n,.slice dA u.length dc,.int .i64 ut,.int .i64 ur,.slice oA ops.length oc] 45))
  have HX:=hid (h.below hb0)
  have HB:=hid hb0
  obtain⟨dA0,dc0,hdv⟩:=row_slice h.done
  obtain⟨wA0,wc0,hwv⟩:=row_slice h.wait
  have HDV:=hid hdv
  have HWV:=hid hwv
  have hLl:X.L.length≤100000:=by have:=ho.len;have:=h.dlen;omega
  have hMl:X.M.length≤100000:=by have:=ho.len;have:=h.wlen;omega
  show Calls _ _ #[.pointer (some ⟨P,0,none⟩),.agg #[.int .i64 t,.int .i64 r,.int .i64 n,.slice dA u.length dc,.int .i64 ut,.int .i64 ur,.slice oA ops.length oc]] _ _
  clear hVC hAT h ho hans hold hb0 hz hdv hwv
  cases old with
  | true=>
    obtain rfl:ans=true:=by rw[HANS.out];simp
    go_enter Tryz.func67,Tryz.ntmps67
    go_upto_region 1 with fail
    generalize hW:w.alloc (.cells #[.int .i64 t,.int .i64 r,.int .i64 n,.slice dA u.length dc,.int .i64 ut,.int .i64 ur,.slice oA ops.length oc] 45)=W at *
    clear hW
    have hwW:w.heap.size<W.heap.size:=lt_of_block HC.out
    refine wp_region_held (S:=fun w'=>w'.heap[w.heap.size]? =some (.cells #[.int .i64 t,.int .i64 r,.int .i64 n,.slice dA u.length dc,.int .i64 ut,.int .i64 ur,.slice oA ops.length oc] 45 (0,0))) (by kernel_rfl) ?_
    try(change wpAnyH _ _ _ _ _ _ _ _ (World.drew _))
    refine tk 0 (.pointer (some ⟨w.heap.size,2,none⟩)) ((show W.drew.heap[w.heap.size]? =_ from HC.out)) ?_
    go_simp
    refine wpAnyH_take (i:=1) (v:= .int .i64 n) rfl (by kernel_rfl) (by kernel_rfl) (by kernel_rfl) (fun _ _ _ h=>h) (Or.inl ⟨by rfl,fun W' hW'=>by(have c_:W'.cell? ⟨w.heap.size,2,none⟩=some (.int .i64 n):=(by rw[crw hW'];rfl);go_simp)⟩) ((show W.drew.heap[w.heap.size]? =_ from HC.out)) ?_
    go_simp
    refine tk 2 (.pointer (some ⟨P,0,none⟩)) ((show W.drew.heap[w.heap.size]? =_ from HC.out)) ?_
    go_simp
    refine tk 4 (.pointer (some ⟨w.heap.size,0,none⟩)) ((show W.drew.heap[w.heap.size]? =_ from HC.out)) ?_
    go_simp
    refine tk 5 (.pointer (some ⟨w.heap.size,1,none⟩)) ((show W.drew.heap[w.heap.size]? =_ from HC.out)) ?_
    go_simp
    refine wpAnyH_take (i:=6) (v:= .int .i64 r) rfl (by kernel_rfl) (by kernel_rfl) (by kernel_rfl) (fun _ _ _ h=>h) (Or.inl ⟨by rfl,fun W' hW'=>by(have c_:W'.cell? ⟨w.heap.size,1,none⟩=some (.int .i64 r):=(by rw[crw hW'];rfl);go_simp)⟩) ((show W.drew.heap[w.heap.size]? =_ from HC.out)) ?_
    go_simp
    refine wpAnyH_ready (rs:=[3]) (by kernel_rfl) (by simp) ?_
    refine AllReadyH.cons rfl (fun K hK=> ?_) AllReadyH.nil
    go_simp
    have hbd:Below W.heap.size W W.drew:=⟨rfl,rfl,rfl,Nat.le_refl _,fun _ _=>rfl⟩
    refine(HVC.out W.drew (HB.out.trans (hbd.mono HB.out.size))).mono ?_
    rintro e w1 ⟨A1,c1,rfl,hv1,hl1,hB1⟩
    have HW1:=hid (hbd.trans hB1)
    have HC1:=hid ((HW1.out.block w.heap.size hwW).trans HC.out)
    have HB1:=hid (HB.out.trans (HW1.out.mono HB.out.size))
    have HV1:=hid hv1
    clear hB1 hv1 hbd
    go_simp
    refine hK.out _ _ (HC1.out) (fun _=> ?_)
    clear hK K
    refine wpAnyH_ready (rs:=[7]) (by kernel_rfl) (by simp) ?_
    refine AllReadyH.cons rfl (fun K hK=> ?_) AllReadyH.nil
    go_simp
    refine(HAT.out w1 A1 c1 HV1.out hl1).mono ?_
    rintro e w2 ⟨rfl,hw2⟩
    replace hw2:=hw2.symm
    subst hw2
    go_simp
    refine hK.out _ _ (HC1.out) (fun _=> ?_)
    clear hK K
    refine tk 8 (.bool true) (HC1.out) ?_
    go_simp
    refine wpAnyH_done (by kernel_rfl) ?_ _
    go_simp
    go_wp2
    go_ret
    exact⟨rfl,HB1.out⟩
  | false =>
    go_enter Tryz.func67,Tryz.ntmps67
    go_upto_region 1 with fail
    generalize hW:w.alloc (.cells #[.int .i64 t,.int .i64 r,.int .i64 n,.slice dA u.length dc,.int .i64 ut,.int .i64 ur,.slice oA ops.length oc] 45)=W at *
    clear hW
    have hwW:w.heap.size<W.heap.size:=lt_of_block HC.out
    refine wp_region_held (S:=fun w'=>w'.heap[w.heap.size]? =some (.cells #[.int .i64 t,.int .i64 r,.int .i64 n,.slice dA u.length dc,.int .i64 ut,.int .i64 ur,.slice oA ops.length oc] 45 (0,0))) (by kernel_rfl) ?_
    try(change wpAnyH _ _ _ _ _ _ _ _ (World.drew _))
    refine tk 0 (.pointer (some ⟨w.heap.size,2,none⟩)) ((show W.drew.heap[w.heap.size]? =_ from HC.out)) ?_
    go_simp
    refine wpAnyH_take (i:=1) (v:= .int .i64 n) rfl (by kernel_rfl) (by kernel_rfl) (by kernel_rfl) (fun _ _ _ h=>h) (Or.inl ⟨by rfl,fun W' hW'=>by(have c_:W'.cell? ⟨w.heap.size,2,none⟩=some (.int .i64 n):=(by rw[crw hW'];rfl);go_simp)⟩) ((show W.drew.heap[w.heap.size]? =_ from HC.out)) ?_
    go_simp
    refine tk 2 (.pointer (some ⟨P,0,none⟩)) ((show W.drew.heap[w.heap.size]? =_ from HC.out)) ?_
    go_simp
    refine tk 4 (.pointer (some ⟨w.heap.size,0,none⟩)) ((show W.drew.heap[w.heap.size]? =_ from HC.out)) ?_
    go_simp
    refine tk 5 (.pointer (some ⟨w.heap.size,1,none⟩)) ((show W.drew.heap[w.heap.size]? =_ from HC.out)) ?_
    go_simp
    refine wpAnyH_take (i:=6) (v:= .int .i64 r) rfl (by kernel_rfl) (by kernel_rfl) (by kernel_rfl) (fun _ _ _ h=>h) (Or.inl ⟨by rfl,fun W' hW'=>by(have c_:W'.cell? ⟨w.heap.size,1,none⟩=some (.int .i64 r):=(by rw[crw hW'];rfl);go_simp)⟩) ((show W.drew.heap[w.heap.size]? =_ from HC.out)) ?_
    go_simp
    refine wpAnyH_ready (rs:=[3]) (by kernel_rfl) (by simp) ?_
    refine AllReadyH.cons rfl (fun K hK=> ?_) AllReadyH.nil
    go_simp
    have hbd:Below W.heap.size W W.drew:=⟨rfl,rfl,rfl,Nat.le_refl _,fun _ _=>rfl⟩
    refine(HVC.out W.drew (HB.out.trans (hbd.mono HB.out.size))).mono ?_
    rintro e w1 ⟨A1,c1,rfl,hv1,hl1,hB1⟩
    have HW1:=hid (hbd.trans hB1)
    have HC1:=hid ((HW1.out.block w.heap.size hwW).trans HC.out)
    have HB1:=hid (HB.out.trans (HW1.out.mono HB.out.size))
    have HV1:=hid hv1
    clear hB1 hv1 hbd
    go_simp
    refine hK.out _ _ (HC1.out) (fun _=> ?_)
    clear hK K
    refine wpAnyH_ready (rs:=[7]) (by kernel_rfl) (by simp) ?_
    refine AllReadyH.cons rfl (fun K hK=> ?_) AllReadyH.nil
    go_simp
    refine(HAT.out w1 A1 c1 HV1.out hl1).mono ?_
    rintro e w2 ⟨rfl,hw2⟩
    replace hw2:=hw2.symm
    subst hw2
    go_simp
    refine hK.out _ _ (HC1.out) (fun _=> ?_)
    clear hK K
    refine tk 8 (.bool false) (HC1.out) ?_
    go_simp
    refine wpAnyH_done (by kernel_rfl) ?_ _
    go_simp
    go_upto_region 4 with(fail)
    have HX1:=hid ((HX.out.below HW1.out))
    go_loopw [5] (fun i wr=>∃k:Nat,i= .int .i64 k∧k≤X.M.length∧Hid (Below w1.heap.size w1 wr)∧Hid (∀j,j<k→clashB (X.M.getD j gp0).1 ⟨⟨t,r⟩,n,u,⟨ut,ur⟩,ops⟩=false)) (fun i _=>X.M.length-(RowKit.intOf i).toNat)
    case atStart=>exact⟨0,rfl,Nat.zero_le _,hid (Below.refl _ _),hid (fun j hj=>absurd hj (Nat.not_lt_zero j))⟩
    case round=>
      obtain⟨k,rfl,hk,HBr,HK⟩:=hrel
      have HXr:=hid (HX1.out.below HBr.out)
      have HBw:=hid (HB1.out.trans (HBr.out.mono HB1.out.size))
      have HCr:=hid ((HBr.out.block w.heap.size (lt_of_block HC1.out)).trans HC1.out)
      have p1:wr.cell? ⟨P,1,none⟩=some (.slice wA0 X.M.length wc0):=by rw[HXr.out.cell,HWV.out];rfl
      by_cases hlt:k<X.M.length
      · have i0 : (0:Int)≤(k:Int):=by omega
        have i1:(k:Int)<(X.M.length:Int):=by omega
        have hrow:=HXr.out.wait
        rw[HWV.out] at hrow
        obtain⟨rb,ro,hwA,hrb,hrange⟩:=RowGr.range (RowGr.own hrow) hlt
        subst hwA
        obtain⟨cl,hcl⟩:∃z,z=clashB (X.M.getD k gp0).1 ⟨⟨t,r⟩,n,u,⟨ut,ur⟩,ops⟩:=⟨_,rfl⟩
        have HCL:=hid hcl
        generalize X.M.getD k gp0=p at hcl hrange
        obtain⟨⟨⟨t2,r2⟩,n2,dv,⟨ut2,ur2⟩,ops2⟩,⟨dA2,dc2,oA2,oc2⟩⟩:=p
        obtain⟨b1,h1⟩:∃b,b=decide (r2=r):=⟨_,rfl⟩
        obtain⟨b2,h2⟩:∃b,b=decide (n2=n):=⟨_,rfl⟩
        obtain⟨b3,h3⟩:∃b,Gst.eqb ⟨t2,r2⟩ ⟨t,r⟩=b:=⟨_,rfl⟩
        have k1:(r2 == r)=b1:=by rw[h1];rfl
        have k2:(n2 == n)=b2:=by rw[h2];rfl
        have k3:=eq_st t2 r2 t r b3 h3
        have HCB:=hid (show cl=((b1 && b2) || b3) by rw[hcl,h1,h2,←h3];rfl)
        have x0:=rg0 HCr.out
        have x1:=rg1 HCr.out
        have x2:=rg2 HCr.out
        have y0:=cell_regrown (w:=wr) (a:=⟨rb,ro+k*7,none⟩) (v:= .int .i64 t2) (hrange 0 _ rfl)
        have y1:=cell_regrown (w:=wr) (a:=⟨rb,ro+k*7+1,none⟩) (v:= .int .i64 r2) (hrange 1 _ rfl)
        have y2:=cell_regrown (w:=wr) (a:=⟨rb,ro+k*7+2,none⟩) (v:= .int .i64 n2) (hrange 2 _ rfl)
        have yp:=cell_regrown p1
        have hMK:X.M.length≤9223372036854775807:=by omega
        clear h1 h2 h3 hcl hrange hrow
        cases b1
        all_goals
          cases b2
          all_goals
            cases b3
            all_goals
              go_upto_region 6 with(fail)
              refine rqb ?_
              repeat(any_goals(first|go_big_quiet_step (fail)|quiet_step (fail)))
              refine qz fun wq hBq=> ?_
              first
                | (obtain rfl:cl=true:=HCB.out
                   obtain rfl:ans=true:=by rw[HANS.out,any_at hlt HCL.out.symm];simp
                   go_wp2
                   go_ret
                   exact⟨rfl,HBw.out.trans (hBq.mono HBw.out.size)⟩)
                | (obtain rfl:cl=false:=HCB.out
                   go_wp2
                   go_roundw
                   (case rel=>exact⟨k+1,by go_num,by omega,hid (HBr.out.trans (hBq.mono HBr.out.size)),hid (fun j hj=>by by_cases e:j=k;(rw[e];exact HCL.out.symm);exact HK.out j (by omega))⟩)
                   (case measure=>(simp[RowKit.intOf];omega)))
      · obtain rfl:k=X.M.length:=by omega
        have i1:¬(X.M.length:Int)<(X.M.length:Int):=by omega
        have HNW:=hid (any_none (f:=fun a=>clashB a ⟨⟨t,r⟩,n,u,⟨ut,ur⟩,ops⟩) HK.out)
        have HXr2:=HXr
        have HCr2:=HCr
        have HBw2:=HBw
        clear HX1 HC1 HB1 HK HBr
        go_upto_region 9 with(fail)
        generalize wr=w2 at *
        go_loopw [6] (fun i wr=>∃k:Nat,i= .int .i64 k∧k≤X.L.length∧Hid (Below w2.heap.size w2 wr)∧Hid (∀j,j<k→(X.L.getD j gp0).1.s.eqb ⟨t,r⟩=false)) (fun i _=>X.L.length-(RowKit.intOf i).toNat)
        case atStart=>exact⟨0,rfl,Nat.zero_le _,hid (Below.refl _ _),hid (fun j hj=>absurd hj (Nat.not_lt_zero j))⟩
        case round=>
          obtain⟨k,rfl,hk,HBr,HK⟩:=hrel
          have HXr:=hid (HXr2.out.below HBr.out)
          have HBw:=hid (HBw2.out.trans (HBr.out.mono HBw2.out.size))
          have HCr:=hid ((HBr.out.block w.heap.size (lt_of_block HCr2.out)).trans HCr2.out)
          have p1:wr.cell? ⟨P,0,none⟩=some (.slice dA0 X.L.length dc0):=by rw[HXr.out.cell,HDV.out];rfl
          by_cases hlt:k<X.L.length
          · have i0:(0:Int)≤(k:Int):=by omega
            have i1:(k:Int)<(X.L.length:Int):=by omega
            have hrow:=HXr.out.done
            rw[HDV.out] at hrow
            obtain⟨rb,ro,hwA,hrb,hrange⟩:=RowGr.range (RowGr.own hrow) hlt
            subst hwA
            obtain⟨cl,hcl⟩:∃z,z=(X.L.getD k gp0).1.s.eqb ⟨t,r⟩:=⟨_,rfl⟩
            have HCL:=hid hcl
            generalize X.L.getD k gp0=p at hcl hrange
            obtain⟨⟨⟨t2,r2⟩,n2,dv,⟨ut2,ur2⟩,ops2⟩,⟨dA2,dc2,oA2,oc2⟩⟩:=p
            have k3:=eq_st t2 r2 t r cl hcl.symm
            have x0:=rg0 HCr.out
            have x1:=rg1 HCr.out
            have y0:=cell_regrown (w:=wr) (a:=⟨rb,ro+k*7,none⟩) (v:= .int .i64 t2) (hrange 0 _ rfl)
            have y1:=cell_regrown (w:=wr) (a:=⟨rb,ro+k*7+1,none⟩) (v:= .int .i64 r2) (hrange 1 _ rfl)
            have yp:=cell_regrown p1
            clear hcl hrange hrow
            cases cl with
            | true=>
              obtain rfl:ans=true:=by rw[HANS.out,any_at (f:=fun d=>d.s.eqb ⟨t,r⟩) hlt HCL.out.symm];simp
              go_upto_region 11 with(fail)
              refine rqb ?_
              repeat(any_goals(first|go_big_quiet_step (fail)|quiet_step (fail)))
              refine qz fun wq hBq=> ?_
              go_wp2
              go_ret
              exact⟨rfl,HBw.out.trans (hBq.mono HBw.out.size)⟩
            | false=>
              go_upto_region 11 with(fail)
              refine rqb ?_
              repeat(any_goals(first|go_big_quiet_step (fail)|quiet_step (fail)))
              refine qz fun wq hBq=> ?_
              go_wp2
              go_roundw
              case rel=>exact⟨k+1,by go_num,by omega,hid (HBr.out.trans (hBq.mono HBr.out.size)),hid (fun j hj=>by by_cases e:j=k;(rw[e];exact HCL.out.symm);exact HK.out j (by omega))⟩
              case measure=>(simp[RowKit.intOf];omega)
          · obtain rfl:k=X.L.length:=by omega
            have i1:¬(X.L.length:Int)<(X.L.length:Int):=by omega
            obtain rfl:ans=false:=by rw[HANS.out,HNW.out,any_none (f:=fun d=>d.s.eqb ⟨t,r⟩) HK.out];rfl
            go_wp2
            go_ret
            exact⟨rfl,HBw.out⟩
theorem rbnext_any {B P:Nat} {S:Nat→Prop} {b:Bx} {X:RbX} {w:World} (h:RbIn B P S b.done b.wait X w) (ho:RbOk b):
  Calls Tryz.prog 69 #[.pointer (some ⟨P,0,none⟩)] w fun e w'=>e= .returned (.int .i64 (bestI (bestN b.v b.wait b.wait.length)))∧Below w.heap.size w w':=by
 obtain⟨mw,hmw⟩:∃m,m=b.wait.length:=⟨_,rfl⟩
 rw[←hmw]
 have hmwl:mw≤100000:=by have:=ho.len;omega
 obtain⟨wA,wc,hwv⟩:=row_slice h.wait
 have hXM:X.M.length=mw:=by rw[h.wlen,hmw]
 rw[hXM] at hwv
 have HMW:=hid hmw
 have HXM:=hid hXM
 have HWV:=hid hwv
 have HRow:=hid (show RowGr w wA X.M from RowGr.own (c:=wc) (by have:=h.wait;rw[hwv,←hXM] at this;exact this))
 have HX:=hid h
 have HO:=hid ho
 clear h ho hmw hXM hwv
 go_enter Tryz.func69,Tryz.ntmps69
 go_upto_region 3 with fail
 go_loopw [3,4] (fun c i wr=>∃(k:Nat) (z:Int),k≤mw∧i= .int .i64 k∧c= .int .i64 z∧Hid (z=bestI (bestN b.v b.wait k))∧Hid (Below w.heap.size w wr)) (fun c i _=>mw-(RowKit.intOf i).toNat)
 case atStart=>exact⟨0,-1,by omega,rfl,rfl,hid rfl,hid (Below.refl _ _)⟩
 case round=>
  obtain⟨k,z,hk,rfl,rfl,HZ,HBr⟩:=hrel
  have HBk:=hid (HX.out.below HBr.out)
  have p1:wr.cell? ⟨P,1,none⟩=some (.slice wA mw wc):=by rw[HBk.out.cell,HWV.out];rfl
  by_cases hlt:k<mw
  ·obtain⟨rb,ro,rfl,hrb,hrange⟩:=RowGr.range (RowGr.below HRow.out HBr.out) (k:=k) (by rw[HXM.out];exact hlt)
   have i1:(0:Int)≤(k:Int):=by omega
   have i2:(k:Int)<(mw:Int):=by omega
   obtain⟨p,hp⟩:∃p,p=X.M.getD k gp0:=⟨_,rfl⟩
   have HGp:=hid (show GrG wr S p by rw[hp];exact HBk.out.good _ (List.mem_append.2 (.inr (getD_memP (by rw[HXM.out];exact hlt)))))
   have HPW:=hid (show p.1=b.wait.getD k gz by rw[hp];exact getD_fst _ _ HBk.out.wl k)
   have HDL:=hid (show p.1.deps.length≤1000 from chk_dl (HO.out.ok.chk _ (by rw[HPW.out];exact List.mem_append.2 (.inr (getD_mem (by rw[←HMW.out];exact hlt))))))
   rw[←hp] at hrange
   clear hp
   obtain⟨ga,x⟩:=p
   obtain⟨rdy,hrdy⟩:∃z,z=readyB b.v ga:=⟨_,rfl⟩
   have HRDc:=hid (show ∀W,Below wr.heap.size wr W→Calls Tryz.prog 68 #[.pointer (some ⟨P,0,none⟩),.agg (grA ga x.dA x.dc x.oA x.oc)] W fun e w'=>e= .returned (.bool rdy)∧Below W.heap.size W w' from fun W hB=>by rw[hrdy];exact rbready_any (HBk.out.below hB) HO.out ga x (HGp.out.agr (Agr.below hB)) HDL.out)
   have HST:=hid (show bestN b.v b.wait (k+1)=if rdy && behB b.wait ga (bestN b.v b.wait k) then some k else bestN b.v b.wait k by rw[hrdy,show ga=b.wait.getD k gz from HPW.out];rfl)
   clear hrdy HDL
   obtain⟨⟨t,r⟩,n,u,⟨ut,ur⟩,ops⟩:=ga
   obtain⟨dA,dc,oA,oc⟩:=x
   have HRD2:Hid (∀W,Below wr.heap.size wr W→Calls Tryz.prog 68 #[.pointer (some ⟨P,0,none⟩),.agg #[.int .i64 t,.int .i64 r,.int .i64 n,.slice dA u.length dc,.int .i64 ut,.int .i64 ur,.slice oA ops.length oc]] W fun e w'=>e= .returned (.bool rdy)∧Below W.heap.size W w'):=HRDc
   have x0:=cell_regrown (w:=wr) (a:=⟨rb,ro+k*7,none⟩) (v:= .int .i64 t) (hrange 0 _ rfl)
   have x1:=cell_regrown (w:=wr) (a:=⟨rb,ro+k*7+1,none⟩) (v:= .int .i64 r) (hrange 1 _ rfl)
   have x2:=cell_regrown (w:=wr) (a:=⟨rb,ro+k*7+2,none⟩) (v:= .int .i64 n) (hrange 2 _ rfl)
   have x3:=cell_regrown (w:=wr) (a:=⟨rb,ro+k*7+3,none⟩) (v:= .slice dA u.length dc) (hrange 3 _ rfl)
   have x4:=cell_regrown (w:=wr) (a:=⟨rb,ro+k*7+4,none⟩) (v:= .int .i64 ut) (hrange 4 _ rfl)
   have x5:=cell_regrown (w:=wr) (a:=⟨rb,ro+k*7+5,none⟩) (v:= .int .i64 ur) (hrange 5 _ rfl)
   have x6:=cell_regrown (w:=wr) (a:=⟨rb,ro+k*7+6,none⟩) (v:= .slice oA ops.length oc) (hrange 6 _ rfl)
   have pp:=cell_regrown p1
   have cA:=fun d os=>Calls.regrown_of (HRD2.out (grow (redrawn wr d) os) (below_regrown wr d os))
   clear hrange HRDc
   cases rdy with
   |false=>
    go_upto_region 5 with fail
    refine rqb ?_
    repeat(any_goals(first|go_big_quiet_step (with_reducible exact cA _ _)|quiet_step (with_reducible exact cA _ _)))
    refine qz fun wq hBq=> ?_
    go_wp2
    go_roundw
    case rel=>exact⟨k+1,z,by omega,by go_num,rfl,hid (by rw[HST.out];simpa using HZ.out),hid (HBr.out.trans (hBq.mono HBr.out.size))⟩
    case measure=>(simp[RowKit.intOf];omega)
   | true=>
    cases hbn:bestN b.v b.wait k with
    |none=>
     obtain rfl:z= -1:=by rw[HZ.out,hbn];rfl
     rw[hbn] at HST
     go_upto_region 5 with fail
     refine rqb ?_
     repeat(any_goals(first|go_big_quiet_step (with_reducible exact cA _ _)|quiet_step (with_reducible exact cA _ _)))
     refine qz fun wq hBq=> ?_
     go_wp2
     go_roundw
     case rel=>exact⟨k+1,(k:Int),by omega,by go_num,rfl,hid (by rw[HST.out];simp[behB,bestI]),hid (HBr.out.trans (hBq.mono HBr.out.size))⟩
     case measure=>(simp[RowKit.intOf];omega)
    | some j=>
     obtain rfl:z=(j:Int):=by rw[HZ.out,hbn];rfl
     rw[hbn] at HST
     have hjk:=(bestN_lt hbn).1
     obtain⟨rb2,ro2,he2,hrb2,hrange2⟩:=RowGr.range (RowGr.below HRow.out HBr.out) (k:=j) (by rw[HXM.out];omega)
     cases he2
     obtain⟨q,hq⟩:∃q,q=X.M.getD j gp0:=⟨_,rfl⟩
     have HQW:=hid (show q.1=b.wait.getD j gz by rw[hq];exact getD_fst _ _ HBk.out.wl j)
     rw[←hq] at hrange2
     clear hq hbn
     obtain⟨gb,y⟩:=q
     obtain⟨⟨t2,r2⟩,n2,u2,⟨ut2,ur2⟩,ops2⟩:=gb
     obtain⟨dA2,dc2,oA2,oc2⟩:=y
     have y0:=cell_regrown (w:=wr) (a:=⟨rb,ro+j*7,none⟩) (v:= .int .i64 t2) (hrange2 0 _ rfl)
     have y1:=cell_regrown (w:=wr) (a:=⟨rb,ro+j*7+1,none⟩) (v:= .int .i64 r2) (hrange2 1 _ rfl)
     have i3:(0:Int)≤(j:Int):=by omega
     have i4:(j:Int)<(mw:Int):=by omega
     have i5:¬(j:Int)<0:=by omega
     have i6:decide ((j:Int)<0)=false:=decide_eq_false i5
     obtain⟨lt,hlt2⟩:∃z,z=(⟨t,r⟩:Gst).lt ⟨t2,r2⟩:=⟨_,rfl⟩
     have cC:=fun d os=>Calls.regrown_of (show Calls Tryz.prog 103 #[.agg #[.int .i64 t,.int .i64 r],.agg #[.int .i64 t2,.int .i64 r2]] (grow (redrawn wr d) os) fun e w'=>e= .returned (.bool lt)∧Below (grow (redrawn wr d) os).heap.size (grow (redrawn wr d) os) w' by rw[hlt2];exact before_any t r t2 r2 _)
     have HY:=hid (show behB b.wait ⟨⟨t,r⟩,n,u,⟨ut,ur⟩,ops⟩ (some j)=lt by rw[hlt2];show(⟨t,r⟩:Gst).lt (b.wait.getD j gz).s=_;rw[←HQW.out])
     clear hlt2 hrange2
     cases lt with
     |true=>
      go_upto_region 5 with fail
      refine rqb ?_
      repeat(any_goals(first|go_big_quiet_step (with_reducible first|exact cA _ _|exact cC _ _)|quiet_step (with_reducible first|exact cA _ _|exact cC _ _)))
      refine qz fun wq hBq=> ?_
      go_wp2
      go_roundw
      case rel=>exact⟨k+1,(k:Int),by omega,by go_num,rfl,hid (by rw[HST.out];rw[HY.out];rfl),hid (HBr.out.trans (hBq.mono HBr.out.size))⟩
      case measure=>(simp[RowKit.intOf];omega)
     |false=>
      go_upto_region 5 with fail
      refine rqb ?_
      repeat(any_goals(first|go_big_quiet_step (with_reducible first|exact cA _ _|exact cC _ _)|quiet_step (with_reducible first|exact cA _ _|exact cC _ _)))
      refine qz fun wq hBq=> ?_
      go_wp2
      go_roundw
      case rel=>exact⟨k+1,(j:Int),by omega,by go_num,rfl,hid (by rw[HST.out];rw[HY.out];rfl),hid (HBr.out.trans (hBq.mono HBr.out.size))⟩
      case measure=>(simp[RowKit.intOf];omega)
  ·obtain rfl:k=mw:=by omega
   have i2:¬(k:Int)<(k:Int):=by omega
   have i2d:decide ((k:Int)<(k:Int))=false:=decide_eq_false i2
   have HZ2:=hid (show Value.int .i64 z= .int .i64 (bestI (bestN b.v b.wait k)) by rw[HZ.out])
   go_wp2
   go_ret
   exact⟨congrArg Ending.returned HZ2.out,HBr.out⟩
end
section
set_option linter.unusedVariables false
theorem drainF_mem:∀(f:Nat) (b:Bx),∀x∈(drainF f b).1.done++(drainF f b).1.wait,x∈b.done++b.wait
 |0,b,x,h=>h
 | f+1,b,x,h=>by
  cases hb:bestN b.v b.wait b.wait.length with
  |none=>rw[drainF_none hb] at h;exact h
  | some k=>
   have hk:=(bestN_lt hb).1
   cases ho:oldB b.v (b.wait.getD k gz) with
   |true=>
    rw[drainF_old hb ho] at h
    have:=drainF_mem f _ x h
    rcases List.mem_append.1 this with h1|h1
    ·exact List.mem_append.2 (.inl h1)
    ·exact List.mem_append.2 (.inr (List.mem_of_mem_eraseIdx h1))
   |false=>
    rw[drainF_put hb ho] at h
    have:=drainF_mem f _ x h
    simp only[Bx.put,List.mem_append,List.mem_singleton] at this
    rcases this with(h1|rfl)|h1
    ·exact List.mem_append.2 (.inl h1)
    ·exact List.mem_append.2 (.inr (getD_mem hk))
    ·exact List.mem_append.2 (.inr (List.mem_of_mem_eraseIdx h1))
theorem hearB_mem (b:Bx) (g:Grp):∀x∈(hearB b g).1.done++(hearB b g).1.wait,x∈b.done++b.wait∨x=g:=by
 intro x
 unfold hearB
 split
 ·exact .inl
 ·split
  ·exact .inl
  ·split
   ·intro h
    have:=drainF_mem _ _ x h
    simp only[Bx.put,List.mem_append,List.mem_singleton] at this
    rcases this with(h1|h1)|h1
    ·exact .inl (List.mem_append.2 (.inl h1))
    ·exact .inr h1
    ·exact .inl (List.mem_append.2 (.inr h1))
   ·split
    ·exact .inl
    ·intro h
     simp only[List.mem_append,List.mem_singleton] at h
     rcases h with h1|h1|h1
     ·exact .inl (List.mem_append.2 (.inl h1))
     ·exact .inl (List.mem_append.2 (.inr h1))
     ·exact .inr h1
end
end Go.Proofs.YtkhmicndehlneaaGreatDoor
