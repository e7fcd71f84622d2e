/- Lemmas for the claim: walks and plain laws. -/
import Derived.Test.YtobanldeicclmaaGreatDoorZ26
set_option maxHeartbeats 16000000
set_option maxRecDepth 100000
namespace Go.Proofs.YtobanldeicclmaaGreatDoor
open Go.RowKit Vtx
attribute [local go_sem ↓] Go.wp_at_zero Go.wp_at_succ
theorem wH {w : World} {g : Nat} {s : ByteArray} {st : RM} (h : dQ w g s st) {word : List UInt8} (hb : st.is word = false) :
  Calls Tryz.prog 37 #[.pointer (some ⟨g, 0, none⟩), .string (tb word)] w fun e w' => e = .returned (.bool false) ∧ w = w' := by
 cases st with
 | at_ l =>
  refine (yL g s.size l w h.1 word).mono ?_
  intro e w' hr
  rw [show vN l word = false from hb, if_neg (by decide)] at hr
  exact ⟨hr.1, hr.2.symm⟩
 | wr k => exact (Ci g s.size k w h (tb word)).mono fun e w' hr => ⟨hr.1, hr.2.symm⟩
theorem JW (s : ByteArray) (st : RM) (hb : st.is [45] = false) (hS : MS 162 .az s st) : MS 152 .minus s st := by
 intro g w hp hm
 have xk := qh hS
 have hlt := hp.lt
 have HM := qh hm
 have qf := qh hp
 have lu := qh hb
 have HG := qh (MC (n := s.data.toList.length) hb)
 obtain ⟨v, hv⟩ := ae (tb (st.pk s.size).1)
 obtain ⟨a, ha⟩ := ae ((st.pk s.size).2)
 have zx := qh hv
 have jD := qh ha
 clear hS hp hm hb hv ha
 go_enter Tryz.func152, Tryz.ntmps152
 go_upto_region 1 with (fail)
 obtain ⟨W, hW, hkW, fV, hszW, hWs, -⟩ := iV g w
 have ny := qh (show dQ W g s st by rw [hW]; exact qf.out.alloc _)
 have oZ := qh (HM.out.kp hkW)
 rw [← hW]
 clear hW
 have kY := qh (kX ny.out)
 rw [zx.out, jD.out] at kY
 go_upto_region 2 with (go_at_call 17; (with_reducible refine kY.out.mono ?_); rintro e w1 ⟨rfl, hb1⟩)
 obtain ⟨W1, hW1⟩ := au (w1.alloc (.cells #[.string v, .int .i64 (a : Nat)] 48 (0, 0)))
 have hbW : Below W.heap.size W W1 := by rw [hW1]; exact hb1.alloc hb1.size _
 have BT : af W1 w1.heap.size 48 #[.string v, .int .i64 (a : Nat)] := by rw [hW1]; exact af.new w1 _ _
 have hsW : W.heap.size ≤ w1.heap.size := hb1.size
 rw [← hW1]
 clear hW1 hb1
 have mW := qh (hkW.trans (Kp.of hbW))
 have qc := qh (ny.out.below hbW)
 have eG := qh (fV.out.below hbW fV.out.lt)
 obtain ⟨kD, nz⟩ := af.c2 BT
 have yh := qh (wH qc.out lu.out)
 rw [show tb [45] = ⟨#[45]⟩ from rfl] at yh
 clear kD nz
 go_wp2_with fail
 refine yh.out.mono ?_
 rintro e w2 ⟨rfl, rfl⟩
 go_wp2_with fail
 refine (xk.out g W1 qc.out (HM.out.kp mW.out)).mono ?_
 rintro e w5 ⟨gu, gy, gz, gG, gI, gJ, gK, gQ, gU, gV, gW, gX, rfl, hs5, hk5, hx5⟩
 have wE := eG.out.kp hk5 (by omega)
 obtain ⟨aQ, eX, aS, eY, aT, fD, aU, fE, aY, jR, aZ, jS, bu, jT, bz, jU⟩ := af.z8 wE
 go_wp2_with fail
 refine bodyPost_ret (v := .agg #[.int .i64 gu, .int .i64 gy, .string gz, .int .i64 gG, .int .i64 gI, .string gJ, .slice gK gQ gU, .slice gV gW gX]) (by simp [results, Tryz.results152, go_sem, aQ, aS, aT, aU, aY, aZ, bu, bz]) rfl ⟨gu, gy, gz, gG, gI, gJ, gK, gQ, gU, gV, gW, gX, rfl, ?_⟩
 rw [HG.out]
 have C9 : W.heap.size ≤ W1.heap.size := hbW.size
 exact RR.ret (L := W.heap.size) hs5 (mW.out.trans hk5) (hx5.imp (fun k hk _ => by omega)) hWs hlt _ _ _ _ _ _ _ _
theorem MM (s : ByteArray) (t : Tok) (r : List Tok) (hb : bH t = [45]) (hz : s.size ≤ 4000) (hN : ∀ st' : RM, st'.l.length < (t :: r).length → MS 152 .minus s st') : MS 152 .minus s (.at_ (t :: r)) := by
 intro g w hp hm
 have HMN := qh hN
 have hlt := hp.lt
 have HM := qh hm
 have qf := qh hp
 obtain ⟨i, hi, hL⟩ := hp.2
 have KG := qh hb
 have Uy := qh hL.symm
 have hbd := jV hL
 obtain ⟨R, hR⟩ := ae ((RM.at_ (t :: r)).P s.data.toList.length .minus)
 have Hl := qh (show R = Pz s.data.toList.length .minus [] (t :: r) from hR.symm)
 obtain ⟨v, hv⟩ := ae (tb (bH t))
 obtain ⟨a, ha⟩ := ae (t.at_)
 have zx := qh (show tb ((RM.at_ (t :: r)).pk s.size).1 = v from hv)
 have jD := qh (show ((RM.at_ (t :: r)).pk s.size).2 = a from ha)
 have HAT := qh ha
 have hvs : v.size = 1 := by rw [← hv, dm, hb]; rfl
 have hal : a ≤ 4000 := by omega
 have HIS := qh (show (RM.at_ (t :: r)).is [45] = true from decide_eq_true hb)
 rw [hR]
 clear hN hp hm hR hv ha hL hb
 go_enter Tryz.func152, Tryz.ntmps152
 go_upto_region 1 with (fail)
 obtain ⟨W, hW, hkW, fV, hszW, hWs, -⟩ := iV g w
 have ny := qh (show dQ W g s (.at_ (t :: r)) by rw [hW]; exact qf.out.alloc _)
 have oZ := qh (HM.out.kp hkW)
 rw [← hW]
 clear hW
 have kY := qh (kX ny.out)
 rw [zx.out, jD.out] at kY
 go_upto_region 2 with (go_at_call 17; (with_reducible refine kY.out.mono ?_); rintro e w1 ⟨rfl, hb1⟩)
 obtain ⟨W1, hW1⟩ := au (w1.alloc (.cells #[.string v, .int .i64 (a : Nat)] 48 (0, 0)))
 have hbW : Below W.heap.size W W1 := by rw [hW1]; exact hb1.alloc hb1.size _
 have BT : af W1 w1.heap.size 48 #[.string v, .int .i64 (a : Nat)] := by rw [hW1]; exact af.new w1 _ _
 have hsW : W.heap.size ≤ w1.heap.size := hb1.size
 rw [← hW1]
 clear hW1 hb1
 have mW := qh (hkW.trans (Kp.of hbW))
 have qc := qh (ny.out.below hbW)
 have eG := qh (fV.out.below hbW fV.out.lt)
 obtain ⟨kD, nz⟩ := af.c2 BT
 have lh := qh (yQ qc.out [45])
 rw [show tb [45] = ⟨#[45]⟩ from rfl, HIS.out, if_pos rfl] at lh
 have adJ := qh BT
 clear kD nz BT
 go_wp2_with fail
 refine lh.out.mono ?_
 rintro e w2 ⟨rfl, hs2, hk2⟩
 have HS2 := qh (show dQ w2 g s (.at_ r) from hs2)
 have hsz2 := hk2.size
 have mG := qh (mW.out.trans hk2)
 have iC := qh (eG.out.kp hk2 (by omega))
 have qj := qh (adJ.out.kp hk2 (by have := ny.out.lt; omega))
 have C9 : W.heap.size ≤ W1.heap.size := hbW.size
 obtain ⟨v2, hv2⟩ := ae (tb (pk s.size r).1)
 obtain ⟨a2, ha2⟩ := ae ((pk s.size r).2)
 have aaE := qh (kX HS2.out)
 rw [show tb ((RM.at_ r).pk s.size).1 = v2 from hv2, show ((RM.at_ r).pk s.size).2 = a2 from ha2] at aaE
 obtain ⟨q, hq⟩ := ae (qw (t :: r))
 have zM := qh hq
 have hnum := (FM (n := s.size) Uy.out KG.out).1
 rw [hq] at hnum
 have aaF := qh (show v2.data.toList = (pk s.size r).1 by rw [← hv2, bT])
 have aaG := qh (show v2.size ≤ 4001 by
  rw [← hv2, dm]
  cases r with
  | nil => exact Nat.zero_le _
  | cons u r' =>
   obtain ⟨j, hj, e⟩ := mX hi
   have h1 : u :: r' = wordsOf s.data.toList j := by rw [← e, Uy.out]; rfl
   have := (jV h1).2
   show (bH u).length ≤ 4001
   omega)
 clear hs2 hk2 hq
 go_upto_region 5 with (go_at_call 17; (with_reducible refine aaE.out.mono ?_); rintro e w3 ⟨rfl, hb3⟩)
 obtain ⟨W3, hW3⟩ := au (w3.alloc (.cells #[.string v2, .int .i64 (a2 : Nat)] 48 (0, 0)))
 have WZ : Below w2.heap.size w2 W3 := by rw [hW3]; exact hb3.alloc hb3.size _
 have Vr := qh (show af W3 w3.heap.size 48 #[.string v2, .int .i64 (a2 : Nat)] by rw [hW3]; exact af.new w3 _ _)
 have hsz3 : w2.heap.size ≤ w3.heap.size := hb3.size
 have CZ : W3.heap.size = w3.heap.size + 1 := by rw [hW3]; simp
 have WY := qh (HS2.out.below WZ)
 have Il := qh (mG.out.trans (Kp.of WZ))
 have qi := qh (iC.out.below WZ iC.out.lt)
 have Xa := qh (qj.out.below WZ qj.out.lt)
 rw [← hW3]
 clear hW3 hb3
 have j0 := Later.cell (show W3.cell? ⟨w1.heap.size, 0, none⟩ = some (.string v) from Xa.out.cell 0)
 have j1 := Later.cell (show W3.cell? ⟨w1.heap.size, 1, none⟩ = some (.int .i64 (a : Nat)) from Xa.out.cell 1)
 have j2 := Later.cell (show W3.cell? ⟨w3.heap.size, 0, none⟩ = some (.string v2) from Vr.out.cell 0)
 have j3 := Later.cell (show W3.cell? ⟨w3.heap.size, 1, none⟩ = some (.int .i64 (a2 : Nat)) from Vr.out.cell 1)
 have HE := qh (Later.call (fun w' (_ : Below W3.heap.size W3 w') => JG v a w' (by omega) (by omega)))
 rw [hvs] at HE
 by_cases hc : a2 = a + 1
 ·
  have hcmp : (((a2 : Nat) : Int) == ((a : Nat) : Int) + 1) = true := by rw [beq_iff_eq]; omega
  by_cases hx : (pk s.size r).1 = []
  ·
   have e0 : v2 = ⟨#[]⟩ := by rw [← hv2, hx]; rfl
   subst e0
   have hqf : q = false := by rw [hnum, hx]; exact Bool.and_false _
   subst hqf
   clear hx hc hnum hv2 ha2
   go_upto_region 5 with (fail)
   refine dR (by kernel_rfl) (by kernel_rfl) ?_
   repeat (go_big_quiet_step (with_reducible exact HE.out _))
   refine wpQuiet_nil ?_
   intro W9 hw'
   obtain ⟨⟨W9, uV⟩, rfl⟩ := hw'
   have YN := qh (WY.out.below uV)
   have Uz := qh (Il.out.trans (Kp.of uV))
   have JX := qh (qi.out.below uV qi.out.lt)
   have YO : W3.heap.size ≤ W9.heap.size := uV.size
   have HNP := qh (yV (n := s.data.toList.length) (t := t) (r := r) KG.out zM.out)
   obtain ⟨r2, hr2⟩ := ae ((RM.at_ r).P s.data.toList.length .minus)
   have HC2 := qh (fun W' hp hm => hr2 ▸ HMN.out (.at_ r) (by show r.length < (t :: r).length; simp) g W' hp hm)
   have eH := qh (show R = r2.bind fun es l => .ok [bQ 20 es] l by rw [Hl.out, HNP.out, ← hr2]; rfl)
   clear hr2 uV
   go_wp2_with fail
   refine (HC2.out W9 YN.out (HM.out.kp Uz.out)).mono ?_
   rintro e w6 ⟨gu, gy, gz, gG, gI, gJ, gK, gQ, gU, gV, gW, gX, rfl, hs6, hk6, hx6⟩
   have Io := qh (JX.out.kp hk6 (by omega))
   have Vu := qh hs6
   have Qo := qh hx6
   have YP := hk6.size
   clear hs6 hx6
   go_wp2_with fail
   refine (oO 20 _ 1 1 _).mono ?_
   rintro e w7 ⟨rfl, hb7⟩
   have B7 := (Io.out.alloc (.cells #[.int .i64 gu, .int .i64 gy, .string gz, .int .i64 gG, .int .i64 gI, .string gJ, .slice gK gQ gU, .slice gV gW gX] 27 (0, 0))).below hb7 (Io.out.alloc _).lt
   obtain ⟨aQ, eX, aS, eY, aT, fD, aU, fE, aY, jR, aZ, jS, bu, jT, bz, jU⟩ := af.z8 B7
   go_wp2_with fail
   refine bodyPost_ret (v := .agg #[.int .i64 4, .int .i64 20, .string ⟨#[]⟩, .int .i64 0, .int .i64 0, .string ⟨#[]⟩, .slice none 0 0, .slice (some ⟨w6.heap.size, 0, none⟩) 1 1]) (by simp [results, Tryz.results152, go_sem, aQ, aS, aT, aU, aY, aZ, bu, bz]) rfl ⟨4, 20, ⟨#[]⟩, 0, 0, ⟨#[]⟩, none, 0, 0, some ⟨w6.heap.size, 0, none⟩, 1, 1, rfl, ?_⟩
   rw [eH.out]
   refine RR.ret (L := W.heap.size) ?_ (((Uz.out.trans hk6).alloc (.cells #[.int .i64 gu, .int .i64 gy, .string gz, .int .i64 gG, .int .i64 gI, .string gJ, .slice gK gQ gU, .slice gV gW gX] 27 (0, 0))).trans (Kp.of hb7)) (RX.one 20 (Qo.out.imp (fun k hk _ => by omega)) hb7 (fun k hk => by omega)) hWs hlt _ _ _ _ _ _ _ _
   rw [dH (f := fun es => [bQ 20 es])]
   exact (Vu.out.alloc (.cells #[.int .i64 gu, .int .i64 gy, .string gz, .int .i64 gG, .int .i64 gI, .string gJ, .slice gK gQ gU, .slice gV gW gX] 27 (0, 0))).below hb7
  ·
   obtain ⟨c0, y0, hcy⟩ : ∃ c0 y0, (pk s.size r).1 = c0 :: y0 := by
    cases h : (pk s.size r).1 with
    | nil => exact absurd h hx
    | cons c0 y0 => exact ⟨c0, y0, rfl⟩
   have hem := kM hv2 hx
   obtain ⟨hu0, hu1⟩ := nS hv2 hcy
   have HD := qh (Later.call (show ∀ w', Below W3.heap.size W3 w' → Calls Tryz.prog 57 #[.int .u8 (v2[0].toNat : Nat)] w' fun e w'' => e = .returned (.bool (bI v2[0])) ∧ Below w'.heap.size w' w'' from fun w' _ => (pK v2[0] w').mono (by rintro e w'' ⟨rfl, rfl⟩; exact ⟨rfl, Below.refl _ _⟩)))
   have hd : bI v2[0] = q := by rw [hnum, ha2, hcy, hu1, decide_eq_true (show a2 = t.at_ + 1 by rw [HAT.out]; exact hc), Bool.true_and]; rfl
   rw [hd] at HD
   clear hx hc hnum hcy hu1 hd hv2 ha2
   cases q
   ·
    skip
    go_upto_region 5 with (fail)
    refine dR (by kernel_rfl) (by kernel_rfl) ?_
    repeat (go_big_quiet_step (first | with_reducible exact HE.out _ | with_reducible exact HD.out _))
    refine wpQuiet_nil ?_
    intro W9 hw'
    obtain ⟨⟨W9, uV⟩, rfl⟩ := hw'
    have YN := qh (WY.out.below uV)
    have Uz := qh (Il.out.trans (Kp.of uV))
    have JX := qh (qi.out.below uV qi.out.lt)
    have YO : W3.heap.size ≤ W9.heap.size := uV.size
    have HNP := qh (yV (n := s.data.toList.length) (t := t) (r := r) KG.out zM.out)
    obtain ⟨r2, hr2⟩ := ae ((RM.at_ r).P s.data.toList.length .minus)
    have HC2 := qh (fun W' hp hm => hr2 ▸ HMN.out (.at_ r) (by show r.length < (t :: r).length; simp) g W' hp hm)
    have eH := qh (show R = r2.bind fun es l => .ok [bQ 20 es] l by rw [Hl.out, HNP.out, ← hr2]; rfl)
    clear hr2 uV
    go_wp2_with fail
    refine (HC2.out W9 YN.out (HM.out.kp Uz.out)).mono ?_
    rintro e w6 ⟨gu, gy, gz, gG, gI, gJ, gK, gQ, gU, gV, gW, gX, rfl, hs6, hk6, hx6⟩
    have Io := qh (JX.out.kp hk6 (by omega))
    have Vu := qh hs6
    have Qo := qh hx6
    have YP := hk6.size
    clear hs6 hx6
    go_wp2_with fail
    refine (oO 20 _ 1 1 _).mono ?_
    rintro e w7 ⟨rfl, hb7⟩
    have B7 := (Io.out.alloc (.cells #[.int .i64 gu, .int .i64 gy, .string gz, .int .i64 gG, .int .i64 gI, .string gJ, .slice gK gQ gU, .slice gV gW gX] 27 (0, 0))).below hb7 (Io.out.alloc _).lt
    obtain ⟨aQ, eX, aS, eY, aT, fD, aU, fE, aY, jR, aZ, jS, bu, jT, bz, jU⟩ := af.z8 B7
    go_wp2_with fail
    refine bodyPost_ret (v := .agg #[.int .i64 4, .int .i64 20, .string ⟨#[]⟩, .int .i64 0, .int .i64 0, .string ⟨#[]⟩, .slice none 0 0, .slice (some ⟨w6.heap.size, 0, none⟩) 1 1]) (by simp [results, Tryz.results152, go_sem, aQ, aS, aT, aU, aY, aZ, bu, bz]) rfl ⟨4, 20, ⟨#[]⟩, 0, 0, ⟨#[]⟩, none, 0, 0, some ⟨w6.heap.size, 0, none⟩, 1, 1, rfl, ?_⟩
    rw [eH.out]
    refine RR.ret (L := W.heap.size) ?_ (((Uz.out.trans hk6).alloc (.cells #[.int .i64 gu, .int .i64 gy, .string gz, .int .i64 gG, .int .i64 gI, .string gJ, .slice gK gQ gU, .slice gV gW gX] 27 (0, 0))).trans (Kp.of hb7)) (RX.one 20 (Qo.out.imp (fun k hk _ => by omega)) hb7 (fun k hk => by omega)) hWs hlt _ _ _ _ _ _ _ _
    rw [dH (f := fun es => [bQ 20 es])]
    exact (Vu.out.alloc (.cells #[.int .i64 gu, .int .i64 gy, .string gz, .int .i64 gG, .int .i64 gI, .string gJ, .slice gK gQ gU, .slice gV gW gX] 27 (0, 0))).below hb7
   ·
    skip
    go_upto_region 5 with (fail)
    refine dR (by kernel_rfl) (by kernel_rfl) ?_
    repeat (go_big_quiet_step (first | with_reducible exact HE.out _ | with_reducible exact HD.out _))
    refine wpQuiet_nil ?_
    intro W9 hw'
    obtain ⟨⟨W9, uV⟩, rfl⟩ := hw'
    obtain ⟨u, r', MN, hux, ⟨c0, y0, hcy, hdc⟩, hP⟩ := Qn (n := s.data.toList.length) Uy.out KG.out zM.out
    subst MN
    have YN := qh (WY.out.below uV)
    have Uz := qh (Il.out.trans (Kp.of uV))
    have JX := qh (qi.out.below uV qi.out.lt)
    have YO : W3.heap.size ≤ W9.heap.size := uV.size
    have BTy := qh (Xa.out.below uV Xa.out.lt)
    have BNy := qh (Vr.out.below uV Vr.out.lt)
    have HT9 := qh (HM.out.kp Uz.out).all
    obtain ⟨z, hz⟩ : ∃ z : ByteArray, (⟨#[45]⟩ : ByteArray) ++ v2 = z := ⟨_, rfl⟩
    have HZ := qh hz
    have hzd : z.data.toList = 45 :: u.tx := by
     rw [← hz, aC, aaF.out, ← hux]
     rfl
    have hzs : z.size ≤ 4100 := by
     have h1 := ak z
     rw [hzd] at h1
     have h2 := aaG.out
     have h3 : v2.data.toList = u.tx := by rw [aaF.out, ← hux]; rfl
     have h4 := ak v2
     rw [h3] at h4
     simp only [List.length_cons] at h1
     omega
    have oI := qh (show R = match fQ z.data.toList with
      | some v => jO.ok [dX v] r'
      | none => .err a by rw [Hl.out, hP, hzd, HAT.out]; cases fQ (45 :: u.tx) <;> rfl)
    have adN := qh (show ∀ x : Val, fQ z.data.toList = some x → x.k = 2 from fun x hx => val_neg (c := c0) (x := y0) (by rw [← hcy, ← hzd]; exact hx))
    obtain ⟨CJ, CO⟩ := af.c2 BNy.out
    have HSu := qh (show dQ W9 g s (.at_ (u :: r')) from YN.out)
    clear hz hzd hux hcy hdc hP uV
    have ahF := aaG.out
    go_wp2_with (rw [HZ.out])
    refine (yO z W9 (by omega) HT9.out.1 HT9.out.2.1 HT9.out.2.2.1).mono ?_
    rintro e w4 ⟨hr4, hb4⟩
    obtain ⟨x, A, c, f, rfl, hrd, hA, hl, hs1, q1, q2⟩ := (SV.of hr4).ex
    have vW : W9.heap.size ≤ w4.heap.size := hb4.size
    obtain ⟨W4, qH⟩ := au (w4.alloc (.cells #[.int .i64 x.k, .int .i64 x.n, .string x.s, .slice A x.l.length c] 24 (0, 0)))
    have Xb : Below W9.heap.size W9 W4 := by rw [qH]; exact hb4.alloc hb4.size _
    have BV := qh (show af W4 w4.heap.size 24 #[.int .i64 x.k, .int .i64 x.n, .string x.s, .slice A x.l.length c] by rw [qH]; exact af.new w4 _ _)
    have xy := qh (show Reads W4 W4.heap.size 1 A x.l.length (dS .i64 x.l) ∧ ∀ ad, A = some ad → W.heap.size ≤ ad.block by
     refine ⟨?_, fun ad h => by have := hA ad h; omega⟩
     rw [qH]
     exact (hrd.below ((Below.refl _ _).alloc (Nat.le_refl _) _)).more (by simp))
    have HQ := qh (And.intro q1 q2)
    have HSc := qh (HSu.out.below Xb)
    have ZI := qh (Uz.out.trans (Kp.of Xb))
    have JO := qh (JX.out.below Xb JX.out.lt)
    have BTc := BTy.out.below Xb BTy.out.lt
    have adB : W4.heap.size = w4.heap.size + 1 := by rw [qH]; simp
    obtain ⟨kD, nz⟩ := af.c2 BTc
    have rf : W4.cell? ⟨w4.heap.size, 0, none⟩ = some (.int .i64 x.k) := BV.out.cell 0
    clear hrd hA q1 q2 hr4 CJ CO
    go_upto_region 7 with (fail)
    rw [← qH]
    clear qH
    by_cases hf : f = 0
    ·
     have HO := qh (HQ.out.1 hf)
     have hk2 := adN.out x HO.out
     have bk2 : (x.k != 2) = false := by rw [hk2]; rfl
     have Ux := qh (show R = .ok [dX x] r' by rw [oI.out, HO.out])
     subst hf
     clear hk2
     have HR2 := qh (show pY W4 g s.size (u :: r') ∧ ∃ i, i ≤ s.size ∧ u :: r' = wordsOf s.data.toList i from HSc.out)
     obtain ⟨ad, c2, hk, hc, -, -, -⟩ := HR2.out.1.head
     have gc0 : W4.cell? ⟨g, 0, none⟩ = some (.slice (some ad) (r'.length + 1) c2) := hk.cell 0
     have gz0 : W4.frozen? ⟨g, 0, none⟩ = false := hk.frozen 0
     have hsl := pO W4 ad r'.length c2 hc
     have jW := qh (HR2.out.1.tail hk hc)
     have XU := qh (show ∃ j, j ≤ s.size ∧ r' = wordsOf s.data.toList j by
      obtain ⟨i, hi, e⟩ := HR2.out.2
      obtain ⟨j, hj, e2⟩ := mX hi
      exact ⟨j, hj, by rw [← e2, ← e]; rfl⟩)
     clear hk
     by_cases hc1 : c2 = 1
     ·
      subst hc1
      have jW := qh (show pY (W4.setCell ⟨g, 0, none⟩ (.slice (some ad) r'.length 0)) g s.size r' from jW.out)
      obtain ⟨V, hV⟩ := au (W4.setCell ⟨g, 0, none⟩ (.slice (some ad) r'.length 0))
      have MK := qh (show pY V g s.size r' by rw [hV]; exact jW.out)
      have zI := qh (show Kp g w V by rw [hV]; exact ZI.out.set 0 _)
      have tH := qh (show Kp g W4 V by rw [hV]; exact (iR g _).set 0 _)
      have Vt : V.heap.size = W4.heap.size := by rw [hV]; simp [World.setCell]
      have ML := BV.out.kp tH.out (by omega)
      have uj := qh (JO.out.kp tH.out (by omega))
      have Df := qh (show Reads V V.heap.size 1 A x.l.length (dS .i64 x.l) ∧ ∀ ad, A = some ad → W.heap.size ≤ ad.block by
       refine ⟨?_, xy.out.2⟩
       rw [Vt, hV]
       exact xy.out.1.apart (fun ad h => by have := xy.out.2 ad h; omega) _)
      have YM : w4.heap.size < V.heap.size := ML.lt
      obtain ⟨rf, ug, uh, sH⟩ := af.c4 ML
      go_upto_region 10 with (fail)
      rw [← hV]
      clear hV ML jW
      go_wp2_with fail
      refine (sU x.k x.n x.s A x.l.length c V).mono ?_
      rintro e w8 ⟨rfl, hb8⟩
      have uo := uj.out.below hb8 uj.out.lt
      obtain ⟨aQ, eX, aS, eY, aT, fD, aU, fE, aY, jR, aZ, jS, bu, jT, bz, jU⟩ := af.z8 uo
      go_wp2_with fail
      refine bodyPost_ret (v := .agg #[.int .i64 1, .int .i64 0, .string ⟨#[]⟩, .int .i64 x.k, .int .i64 x.n, .string x.s, .slice A x.l.length c, .slice none 0 0]) (by simp [results, Tryz.results152, go_sem, aQ, aS, aT, aU, aY, aZ, bu, bz]) rfl ⟨1, 0, ⟨#[]⟩, x.k, x.n, x.s, A, x.l.length, c, none, 0, 0, rfl, ?_⟩
      rw [Ux.out]
      exact RR.ret (L := W.heap.size) (show dQ w8 g s (.at_ r') from ⟨MK.out.below hb8, XU.out⟩) (zI.out.trans (Kp.of hb8)) (fun es l e => by
       injection e with e1 e2
       exact ⟨dX x, e1.symm, lD ((Df.out.1.below hb8).more hb8.size) Df.out.2 (by unfold maxLen; omega) (by unfold maxLen; omega)⟩) hWs hlt _ _ _ _ _ _ _ _
     ·
      have jW := qh (show pY (W4.setCell ⟨g, 0, none⟩ (.slice (some ⟨ad.block, ad.off + 2, none⟩) r'.length (c2 - 1))) g s.size r' from by have h := jW.out; rw [if_neg hc1] at h; exact h)
      obtain ⟨V, hV⟩ := au (W4.setCell ⟨g, 0, none⟩ (.slice (some ⟨ad.block, ad.off + 2, none⟩) r'.length (c2 - 1)))
      have MK := qh (show pY V g s.size r' by rw [hV]; exact jW.out)
      have zI := qh (show Kp g w V by rw [hV]; exact ZI.out.set 0 _)
      have tH := qh (show Kp g W4 V by rw [hV]; exact (iR g _).set 0 _)
      have Vt : V.heap.size = W4.heap.size := by rw [hV]; simp [World.setCell]
      have ML := BV.out.kp tH.out (by omega)
      have uj := qh (JO.out.kp tH.out (by omega))
      have Df := qh (show Reads V V.heap.size 1 A x.l.length (dS .i64 x.l) ∧ ∀ ad, A = some ad → W.heap.size ≤ ad.block by
       refine ⟨?_, xy.out.2⟩
       rw [Vt, hV]
       exact xy.out.1.apart (fun ad h => by have := xy.out.2 ad h; omega) _)
      have YM : w4.heap.size < V.heap.size := ML.lt
      obtain ⟨rf, ug, uh, sH⟩ := af.c4 ML
      go_upto_region 10 with (fail)
      rw [← hV]
      clear hV ML jW
      go_wp2_with fail
      refine (sU x.k x.n x.s A x.l.length c V).mono ?_
      rintro e w8 ⟨rfl, hb8⟩
      have uo := uj.out.below hb8 uj.out.lt
      obtain ⟨aQ, eX, aS, eY, aT, fD, aU, fE, aY, jR, aZ, jS, bu, jT, bz, jU⟩ := af.z8 uo
      go_wp2_with fail
      refine bodyPost_ret (v := .agg #[.int .i64 1, .int .i64 0, .string ⟨#[]⟩, .int .i64 x.k, .int .i64 x.n, .string x.s, .slice A x.l.length c, .slice none 0 0]) (by simp [results, Tryz.results152, go_sem, aQ, aS, aT, aU, aY, aZ, bu, bz]) rfl ⟨1, 0, ⟨#[]⟩, x.k, x.n, x.s, A, x.l.length, c, none, 0, 0, rfl, ?_⟩
      rw [Ux.out]
      exact RR.ret (L := W.heap.size) (show dQ w8 g s (.at_ r') from ⟨MK.out.below hb8, XU.out⟩) (zI.out.trans (Kp.of hb8)) (fun es l e => by
       injection e with e1 e2
       exact ⟨dX x, e1.symm, lD ((Df.out.1.below hb8).more hb8.size) Df.out.2 (by unfold maxLen; omega) (by unfold maxLen; omega)⟩) hWs hlt _ _ _ _ _ _ _ _
    ·
     have bf : (f != 0) = true := by simpa using hf
     have rD := qh (show R = .err a by rw [oI.out, HQ.out.2 hf])
     clear hf
     have wG := qh (JC HSc.out v a)
     go_wp2_with (go_at_call 16; (with_reducible refine wG.out.mono ?_); rintro e w8 ⟨rfl, hs8, hk8⟩; have uo := JO.out.kp hk8 (by omega); have Xc := qh hs8; have Ip := qh hk8; clear hs8 hk8; have aQ : w8.cell? ⟨w.heap.size, 0, none⟩ = some (.int .i64 0) := uo.cell 0; have eX : w8.frozen? ⟨w.heap.size, 0, none⟩ = false := uo.frozen 0; have aS : w8.cell? ⟨w.heap.size, 1, none⟩ = some (.int .i64 0) := uo.cell 1; have eY : w8.frozen? ⟨w.heap.size, 1, none⟩ = false := uo.frozen 1; have aT : w8.cell? ⟨w.heap.size, 2, none⟩ = some (.string ⟨#[]⟩) := uo.cell 2; have fD : w8.frozen? ⟨w.heap.size, 2, none⟩ = false := uo.frozen 2; have aU : w8.cell? ⟨w.heap.size, 3, none⟩ = some (.int .i64 0) := uo.cell 3; have fE : w8.frozen? ⟨w.heap.size, 3, none⟩ = false := uo.frozen 3; have aY : w8.cell? ⟨w.heap.size, 4, none⟩ = some (.int .i64 0) := uo.cell 4; have jR : w8.frozen? ⟨w.heap.size, 4, none⟩ = false := uo.frozen 4; have aZ : w8.cell? ⟨w.heap.size, 5, none⟩ = some (.string ⟨#[]⟩) := uo.cell 5; have jS : w8.frozen? ⟨w.heap.size, 5, none⟩ = false := uo.frozen 5; have bu : w8.cell? ⟨w.heap.size, 6, none⟩ = some (.slice none 0 0) := uo.cell 6; have jT : w8.frozen? ⟨w.heap.size, 6, none⟩ = false := uo.frozen 6; have bz : w8.cell? ⟨w.heap.size, 7, none⟩ = some (.slice none 0 0) := uo.cell 7; have jU : w8.frozen? ⟨w.heap.size, 7, none⟩ = false := uo.frozen 7)
     refine bodyPost_ret (v := .agg #[.int .i64 0, .int .i64 0, .string ⟨#[]⟩, .int .i64 0, .int .i64 0, .string ⟨#[]⟩, .slice none 0 0, .slice none 0 0]) (by simp [results, Tryz.results152, go_sem, aQ, aS, aT, aU, aY, aZ, bu, bz]) rfl ⟨0, 0, ⟨#[]⟩, 0, 0, ⟨#[]⟩, none, 0, 0, none, 0, 0, rfl, ?_⟩
     rw [rD.out]
     exact RR.ret (L := W.heap.size) Xc.out (ZI.out.trans Ip.out) (fun es l e => by cases e) hWs hlt _ _ _ _ _ _ _ _
 ·
  have hcmp : (((a2 : Nat) : Int) == ((a : Nat) : Int) + 1) = false := by rw [beq_eq_false_iff_ne]; omega
  have hqf : q = false := by rw [hnum, ha2, HAT.out, decide_eq_false hc]; rfl
  subst hqf
  clear hc hnum hv2 ha2
  go_upto_region 5 with (fail)
  refine dR (by kernel_rfl) (by kernel_rfl) ?_
  repeat (go_big_quiet_step (with_reducible exact HE.out _))
  refine wpQuiet_nil ?_
  intro W9 hw'
  obtain ⟨⟨W9, uV⟩, rfl⟩ := hw'
  have YN := qh (WY.out.below uV)
  have Uz := qh (Il.out.trans (Kp.of uV))
  have JX := qh (qi.out.below uV qi.out.lt)
  have YO : W3.heap.size ≤ W9.heap.size := uV.size
  have HNP := qh (yV (n := s.data.toList.length) (t := t) (r := r) KG.out zM.out)
  obtain ⟨r2, hr2⟩ := ae ((RM.at_ r).P s.data.toList.length .minus)
  have HC2 := qh (fun W' hp hm => hr2 ▸ HMN.out (.at_ r) (by show r.length < (t :: r).length; simp) g W' hp hm)
  have eH := qh (show R = r2.bind fun es l => .ok [bQ 20 es] l by rw [Hl.out, HNP.out, ← hr2]; rfl)
  clear hr2 uV
  go_wp2_with fail
  refine (HC2.out W9 YN.out (HM.out.kp Uz.out)).mono ?_
  rintro e w6 ⟨gu, gy, gz, gG, gI, gJ, gK, gQ, gU, gV, gW, gX, rfl, hs6, hk6, hx6⟩
  have Io := qh (JX.out.kp hk6 (by omega))
  have Vu := qh hs6
  have Qo := qh hx6
  have YP := hk6.size
  clear hs6 hx6
  go_wp2_with fail
  refine (oO 20 _ 1 1 _).mono ?_
  rintro e w7 ⟨rfl, hb7⟩
  have B7 := (Io.out.alloc (.cells #[.int .i64 gu, .int .i64 gy, .string gz, .int .i64 gG, .int .i64 gI, .string gJ, .slice gK gQ gU, .slice gV gW gX] 27 (0, 0))).below hb7 (Io.out.alloc _).lt
  obtain ⟨aQ, eX, aS, eY, aT, fD, aU, fE, aY, jR, aZ, jS, bu, jT, bz, jU⟩ := af.z8 B7
  go_wp2_with fail
  refine bodyPost_ret (v := .agg #[.int .i64 4, .int .i64 20, .string ⟨#[]⟩, .int .i64 0, .int .i64 0, .string ⟨#[]⟩, .slice none 0 0, .slice (some ⟨w6.heap.size, 0, none⟩) 1 1]) (by simp [results, Tryz.results152, go_sem, aQ, aS, aT, aU, aY, aZ, bu, bz]) rfl ⟨4, 20, ⟨#[]⟩, 0, 0, ⟨#[]⟩, none, 0, 0, some ⟨w6.heap.size, 0, none⟩, 1, 1, rfl, ?_⟩
  rw [eH.out]
  refine RR.ret (L := W.heap.size) ?_ (((Uz.out.trans hk6).alloc (.cells #[.int .i64 gu, .int .i64 gy, .string gz, .int .i64 gG, .int .i64 gI, .string gJ, .slice gK gQ gU, .slice gV gW gX] 27 (0, 0))).trans (Kp.of hb7)) (RX.one 20 (Qo.out.imp (fun k hk _ => by omega)) hb7 (fun k hk => by omega)) hWs hlt _ _ _ _ _ _ _ _
  rw [dH (f := fun es => [bQ 20 es])]
  exact (Vu.out.alloc (.cells #[.int .i64 gu, .int .i64 gy, .string gz, .int .i64 gG, .int .i64 gI, .string gJ, .slice gK gQ gU, .slice gV gW gX] 27 (0, 0))).below hb7
theorem zJ (s : ByteArray) (st : RM) (hz : s.size ≤ 4000) (hN : ∀ st' : RM, st'.l.length < st.l.length → MS 152 .minus s st') (hS : MS 162 .az s st) : MS 152 .minus s st := by
 cases hb : st.is [45] with
 | false => exact JW s st hb hS
 | true =>
  obtain ⟨t, r, rfl, ht⟩ := RM.yP hb
  exact MM s t r ht hz hN
end Go.Proofs.YtobanldeicclmaaGreatDoor
