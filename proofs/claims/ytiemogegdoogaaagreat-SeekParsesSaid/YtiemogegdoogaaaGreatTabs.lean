/- The tables of this program as tries: each is the table itself, row by row. No condition. -/
import Derived.Test.YtiemogegdoogaaaGreatProg
import Derived.Test.YtiemogegdoogaaaGreatEngQ
import Derived.KernelRfl
namespace Go.Proofs.YtiemogegdoogaaaGreat
open Go Go.Proofs.YtiemogegdoogaaaGreat.Eng Go.Proofs
noncomputable def typeRows : List TypeInfo := [
  Tryz.t0, Tryz.t1, Tryz.t2, Tryz.t3, Tryz.t4, Tryz.t5, Tryz.t6, Tryz.t7, Tryz.t8, Tryz.t9, Tryz.t10, Tryz.t11, Tryz.t12, Tryz.t13, Tryz.t14, Tryz.t15, Tryz.t16,
  Tryz.t17, Tryz.t18, Tryz.t19, Tryz.t20, Tryz.t21, Tryz.t22, Tryz.t23, Tryz.t24, Tryz.t25, Tryz.t26, Tryz.t27, Tryz.t28, Tryz.t29, Tryz.t30, Tryz.t31,
  Tryz.t32, Tryz.t33, Tryz.t34, Tryz.t35, Tryz.t36, Tryz.t37, Tryz.t38, Tryz.t39, Tryz.t40, Tryz.t41, Tryz.t42, Tryz.t43, Tryz.t44, Tryz.t45, Tryz.t46,
  Tryz.t47, Tryz.t48, Tryz.t49, Tryz.t50, Tryz.t51, Tryz.t52, Tryz.t53, Tryz.t54, Tryz.t55, Tryz.t56, Tryz.t57, Tryz.t58, Tryz.t59, Tryz.t60, Tryz.t61,
  Tryz.t62, Tryz.t63, Tryz.t64, Tryz.t65, Tryz.t66, Tryz.t67, Tryz.t68, Tryz.t69, Tryz.t70, Tryz.t71, Tryz.t72, Tryz.t73, Tryz.t74, Tryz.t75, Tryz.t76,
  Tryz.t77, Tryz.t78, Tryz.t79, Tryz.t80, Tryz.t81, Tryz.t82, Tryz.t83, Tryz.t84, Tryz.t85, Tryz.t86, Tryz.t87, Tryz.t88, Tryz.t89, Tryz.t90, Tryz.t91,
  Tryz.t92, Tryz.t93, Tryz.t94, Tryz.t95, Tryz.t96, Tryz.t97, Tryz.t98, Tryz.t99, Tryz.t100, Tryz.t101, Tryz.t102, Tryz.t103, Tryz.t104, Tryz.t105, Tryz.t106,
  Tryz.t107, Tryz.t108, Tryz.t109, Tryz.t110, Tryz.t111, Tryz.t112, Tryz.t113, Tryz.t114, Tryz.t115, Tryz.t116, Tryz.t117, Tryz.t118, Tryz.t119, Tryz.t120,
  Tryz.t121, Tryz.t122, Tryz.t123, Tryz.t124, Tryz.t125, Tryz.t126, Tryz.t127, Tryz.t128, Tryz.t129, Tryz.t130, Tryz.t131, Tryz.t132, Tryz.t133, Tryz.t134,
  Tryz.t135, Tryz.t136, Tryz.t137, Tryz.t138, Tryz.t139, Tryz.t140, Tryz.t141, Tryz.t142, Tryz.t143, Tryz.t144, Tryz.t145, Tryz.t146, Tryz.t147, Tryz.t148,
  Tryz.t149, Tryz.t150, Tryz.t151, Tryz.t152, Tryz.t153, Tryz.t154, Tryz.t155, Tryz.t156, Tryz.t157, Tryz.t158, Tryz.t159, Tryz.t160, Tryz.t161, Tryz.t162,
  Tryz.t163, Tryz.t164, Tryz.t165, Tryz.t166, Tryz.t167, Tryz.t168, Tryz.t169, Tryz.t170, Tryz.t171, Tryz.t172, Tryz.t173, Tryz.t174, Tryz.t175, Tryz.t176,
  Tryz.t177, Tryz.t178, Tryz.t179, Tryz.t180, Tryz.t181, Tryz.t182, Tryz.t183, Tryz.t184, Tryz.t185, Tryz.t186, Tryz.t187, Tryz.t188, Tryz.t189, Tryz.t190,
  Tryz.t191, Tryz.t192, Tryz.t193, Tryz.t194, Tryz.t195, Tryz.t196, Tryz.t197, Tryz.t198, Tryz.t199, Tryz.t200, Tryz.t201, Tryz.t202, Tryz.t203, Tryz.t204,
  Tryz.t205, Tryz.t206, Tryz.t207, Tryz.t208, Tryz.t209, Tryz.t210, Tryz.t211, Tryz.t212, Tryz.t213, Tryz.t214, Tryz.t215, Tryz.t216, Tryz.t217, Tryz.t218,
  Tryz.t219, Tryz.t220, Tryz.t221, Tryz.t222, Tryz.t223, Tryz.t224, Tryz.t225, Tryz.t226, Tryz.t227, Tryz.t228, Tryz.t229, Tryz.t230, Tryz.t231, Tryz.t232,
  Tryz.t233, Tryz.t234, Tryz.t235, Tryz.t236, Tryz.t237, Tryz.t238, Tryz.t239, Tryz.t240, Tryz.t241, Tryz.t242, Tryz.t243, Tryz.t244, Tryz.t245, Tryz.t246,
  Tryz.t247, Tryz.t248, Tryz.t249, Tryz.t250, Tryz.t251, Tryz.t252, Tryz.t253, Tryz.t254, Tryz.t255, Tryz.t256, Tryz.t257, Tryz.t258, Tryz.t259, Tryz.t260,
  Tryz.t261, Tryz.t262, Tryz.t263, Tryz.t264, Tryz.t265, Tryz.t266, Tryz.t267, Tryz.t268, Tryz.t269, Tryz.t270, Tryz.t271, Tryz.t272, Tryz.t273, Tryz.t274,
  Tryz.t275, Tryz.t276, Tryz.t277, Tryz.t278, Tryz.t279, Tryz.t280, Tryz.t281, Tryz.t282, Tryz.t283, Tryz.t284, Tryz.t285, Tryz.t286, Tryz.t287, Tryz.t288,
  Tryz.t289, Tryz.t290, Tryz.t291, Tryz.t292, Tryz.t293, Tryz.t294, Tryz.t295, Tryz.t296, Tryz.t297, Tryz.t298, Tryz.t299, Tryz.t300, Tryz.t301, Tryz.t302,
  Tryz.t303, Tryz.t304, Tryz.t305, Tryz.t306, Tryz.t307, Tryz.t308, Tryz.t309, Tryz.t310, Tryz.t311, Tryz.t312, Tryz.t313, Tryz.t314, Tryz.t315, Tryz.t316,
  Tryz.t317, Tryz.t318, Tryz.t319, Tryz.t320, Tryz.t321, Tryz.t322, Tryz.t323, Tryz.t324, Tryz.t325, Tryz.t326, Tryz.t327, Tryz.t328, Tryz.t329, Tryz.t330,
  Tryz.t331, Tryz.t332, Tryz.t333, Tryz.t334, Tryz.t335, Tryz.t336, Tryz.t337, Tryz.t338, Tryz.t339, Tryz.t340, Tryz.t341, Tryz.t342, Tryz.t343, Tryz.t344,
  Tryz.t345, Tryz.t346, Tryz.t347, Tryz.t348, Tryz.t349, Tryz.t350, Tryz.t351, Tryz.t352, Tryz.t353, Tryz.t354, Tryz.t355, Tryz.t356, Tryz.t357, Tryz.t358,
  Tryz.t359, Tryz.t360, Tryz.t361, Tryz.t362, Tryz.t363, Tryz.t364, Tryz.t365, Tryz.t366, Tryz.t367, Tryz.t368, Tryz.t369, Tryz.t370, Tryz.t371, Tryz.t372,
  Tryz.t373, Tryz.t374, Tryz.t375, Tryz.t376, Tryz.t377, Tryz.t378, Tryz.t379, Tryz.t380, Tryz.t381, Tryz.t382, Tryz.t383, Tryz.t384, Tryz.t385, Tryz.t386,
  Tryz.t387, Tryz.t388, Tryz.t389, Tryz.t390, Tryz.t391, Tryz.t392, Tryz.t393, Tryz.t394, Tryz.t395, Tryz.t396, Tryz.t397, Tryz.t398, Tryz.t399, Tryz.t400,
  Tryz.t401, Tryz.t402, Tryz.t403, Tryz.t404, Tryz.t405, Tryz.t406, Tryz.t407, Tryz.t408, Tryz.t409, Tryz.t410, Tryz.t411, Tryz.t412, Tryz.t413, Tryz.t414,
  Tryz.t415, Tryz.t416, Tryz.t417, Tryz.t418, Tryz.t419, Tryz.t420, Tryz.t421, Tryz.t422, Tryz.t423, Tryz.t424, Tryz.t425, Tryz.t426, Tryz.t427, Tryz.t428,
  Tryz.t429, Tryz.t430, Tryz.t431, Tryz.t432, Tryz.t433, Tryz.t434, Tryz.t435, Tryz.t436, Tryz.t437, Tryz.t438, Tryz.t439, Tryz.t440, Tryz.t441, Tryz.t442,
  Tryz.t443, Tryz.t444, Tryz.t445, Tryz.t446, Tryz.t447, Tryz.t448, Tryz.t449, Tryz.t450, Tryz.t451, Tryz.t452, Tryz.t453, Tryz.t454, Tryz.t455, Tryz.t456,
  Tryz.t457, Tryz.t458, Tryz.t459, Tryz.t460, Tryz.t461, Tryz.t462, Tryz.t463, Tryz.t464, Tryz.t465, Tryz.t466, Tryz.t467, Tryz.t468, Tryz.t469, Tryz.t470,
  Tryz.t471, Tryz.t472, Tryz.t473, Tryz.t474, Tryz.t475, Tryz.t476, Tryz.t477, Tryz.t478, Tryz.t479, Tryz.t480, Tryz.t481, Tryz.t482, Tryz.t483, Tryz.t484,
  Tryz.t485, Tryz.t486, Tryz.t487, Tryz.t488, Tryz.t489, Tryz.t490, Tryz.t491, Tryz.t492, Tryz.t493, Tryz.t494, Tryz.t495, Tryz.t496, Tryz.t497, Tryz.t498,
  Tryz.t499, Tryz.t500, Tryz.t501, Tryz.t502, Tryz.t503, Tryz.t504, Tryz.t505, Tryz.t506, Tryz.t507, Tryz.t508, Tryz.t509, Tryz.t510, Tryz.t511, Tryz.t512,
  Tryz.t513, Tryz.t514, Tryz.t515, Tryz.t516, Tryz.t517, Tryz.t518, Tryz.t519, Tryz.t520, Tryz.t521, Tryz.t522, Tryz.t523, Tryz.t524, Tryz.t525, Tryz.t526,
  Tryz.t527, Tryz.t528, Tryz.t529, Tryz.t530, Tryz.t531, Tryz.t532, Tryz.t533, Tryz.t534, Tryz.t535, Tryz.t536, Tryz.t537, Tryz.t538, Tryz.t539, Tryz.t540,
  Tryz.t541, Tryz.t542, Tryz.t543, Tryz.t544, Tryz.t545, Tryz.t546, Tryz.t547, Tryz.t548, Tryz.t549, Tryz.t550, Tryz.t551, Tryz.t552, Tryz.t553, Tryz.t554,
  Tryz.t555, Tryz.t556, Tryz.t557, Tryz.t558, Tryz.t559, Tryz.t560, Tryz.t561, Tryz.t562, Tryz.t563, Tryz.t564, Tryz.t565, Tryz.t566, Tryz.t567, Tryz.t568,
  Tryz.t569, Tryz.t570, Tryz.t571, Tryz.t572, Tryz.t573, Tryz.t574, Tryz.t575, Tryz.t576, Tryz.t577, Tryz.t578, Tryz.t579, Tryz.t580, Tryz.t581, Tryz.t582,
  Tryz.t583, Tryz.t584, Tryz.t585, Tryz.t586, Tryz.t587, Tryz.t588, Tryz.t589, Tryz.t590, Tryz.t591, Tryz.t592, Tryz.t593, Tryz.t594, Tryz.t595, Tryz.t596,
  Tryz.t597, Tryz.t598, Tryz.t599, Tryz.t600, Tryz.t601, Tryz.t602, Tryz.t603, Tryz.t604, Tryz.t605, Tryz.t606, Tryz.t607, Tryz.t608, Tryz.t609, Tryz.t610,
  Tryz.t611, Tryz.t612, Tryz.t613, Tryz.t614, Tryz.t615, Tryz.t616, Tryz.t617, Tryz.t618, Tryz.t619, Tryz.t620, Tryz.t621, Tryz.t622, Tryz.t623, Tryz.t624,
  Tryz.t625, Tryz.t626, Tryz.t627, Tryz.t628, Tryz.t629, Tryz.t630, Tryz.t631, Tryz.t632, Tryz.t633, Tryz.t634, Tryz.t635, Tryz.t636, Tryz.t637, Tryz.t638,
  Tryz.t639, Tryz.t640, Tryz.t641, Tryz.t642, Tryz.t643, Tryz.t644, Tryz.t645, Tryz.t646, Tryz.t647, Tryz.t648, Tryz.t649, Tryz.t650, Tryz.t651, Tryz.t652,
  Tryz.t653, Tryz.t654, Tryz.t655, Tryz.t656, Tryz.t657, Tryz.t658, Tryz.t659, Tryz.t660, Tryz.t661, Tryz.t662, Tryz.t663, Tryz.t664, Tryz.t665, Tryz.t666,
  Tryz.t667, Tryz.t668, Tryz.t669, Tryz.t670, Tryz.t671, Tryz.t672, Tryz.t673, Tryz.t674, Tryz.t675, Tryz.t676, Tryz.t677, Tryz.t678, Tryz.t679, Tryz.t680,
  Tryz.t681, Tryz.t682, Tryz.t683, Tryz.t684, Tryz.t685, Tryz.t686, Tryz.t687, Tryz.t688, Tryz.t689, Tryz.t690, Tryz.t691, Tryz.t692, Tryz.t693, Tryz.t694,
  Tryz.t695, Tryz.t696, Tryz.t697, Tryz.t698, Tryz.t699, Tryz.t700, Tryz.t701, Tryz.t702, Tryz.t703, Tryz.t704, Tryz.t705, Tryz.t706, Tryz.t707, Tryz.t708,
  Tryz.t709, Tryz.t710, Tryz.t711, Tryz.t712, Tryz.t713, Tryz.t714, Tryz.t715, Tryz.t716, Tryz.t717, Tryz.t718, Tryz.t719, Tryz.t720, Tryz.t721, Tryz.t722,
  Tryz.t723, Tryz.t724, Tryz.t725, Tryz.t726, Tryz.t727, Tryz.t728, Tryz.t729, Tryz.t730, Tryz.t731, Tryz.t732, Tryz.t733, Tryz.t734, Tryz.t735, Tryz.t736,
  Tryz.t737, Tryz.t738, Tryz.t739, Tryz.t740, Tryz.t741, Tryz.t742, Tryz.t743, Tryz.t744, Tryz.t745, Tryz.t746, Tryz.t747, Tryz.t748, Tryz.t749, Tryz.t750,
  Tryz.t751, Tryz.t752, Tryz.t753, Tryz.t754, Tryz.t755, Tryz.t756, Tryz.t757, Tryz.t758, Tryz.t759, Tryz.t760, Tryz.t761, Tryz.t762, Tryz.t763, Tryz.t764,
  Tryz.t765, Tryz.t766, Tryz.t767, Tryz.t768, Tryz.t769, Tryz.t770, Tryz.t771, Tryz.t772, Tryz.t773, Tryz.t774, Tryz.t775, Tryz.t776, Tryz.t777, Tryz.t778,
  Tryz.t779, Tryz.t780, Tryz.t781, Tryz.t782, Tryz.t783, Tryz.t784, Tryz.t785, Tryz.t786, Tryz.t787]
noncomputable def undRows : List TypeDesc := [
  Tryz.t0.desc, Tryz.t1.desc, Tryz.t2.desc, Tryz.t3.desc, Tryz.t4.desc, Tryz.t5.desc, Tryz.t5.desc, Tryz.t7.desc, Tryz.t7.desc, Tryz.t9.desc, Tryz.t9.desc,
  Tryz.t9.desc, Tryz.t12.desc, Tryz.t13.desc, Tryz.t13.desc, Tryz.t15.desc, Tryz.t16.desc, Tryz.t17.desc, Tryz.t18.desc, Tryz.t18.desc, Tryz.t20.desc,
  Tryz.t21.desc, Tryz.t22.desc, Tryz.t23.desc, Tryz.t24.desc, Tryz.t3.desc, Tryz.t26.desc, Tryz.t27.desc, Tryz.t28.desc, Tryz.t29.desc, Tryz.t30.desc,
  Tryz.t31.desc, Tryz.t32.desc, Tryz.t33.desc, Tryz.t34.desc, Tryz.t35.desc, Tryz.t36.desc, Tryz.t3.desc, Tryz.t38.desc, Tryz.t38.desc, Tryz.t40.desc,
  Tryz.t41.desc, Tryz.t42.desc, Tryz.t43.desc, Tryz.t44.desc, Tryz.t45.desc, Tryz.t46.desc, Tryz.t47.desc, Tryz.t48.desc, Tryz.t49.desc, Tryz.t50.desc,
  Tryz.t51.desc, Tryz.t52.desc, Tryz.t53.desc, Tryz.t54.desc, Tryz.t55.desc, Tryz.t56.desc, Tryz.t57.desc, Tryz.t58.desc, Tryz.t59.desc, Tryz.t60.desc,
  Tryz.t61.desc, Tryz.t62.desc, Tryz.t63.desc, Tryz.t64.desc, Tryz.t65.desc, Tryz.t66.desc, Tryz.t67.desc, Tryz.t67.desc, Tryz.t69.desc, Tryz.t70.desc,
  Tryz.t70.desc, Tryz.t72.desc, Tryz.t72.desc, Tryz.t74.desc, Tryz.t75.desc, Tryz.t75.desc, Tryz.t77.desc, Tryz.t78.desc, Tryz.t79.desc, Tryz.t80.desc,
  Tryz.t81.desc, Tryz.t82.desc, Tryz.t83.desc, Tryz.t83.desc, Tryz.t85.desc, Tryz.t86.desc, Tryz.t87.desc, Tryz.t88.desc, Tryz.t89.desc, Tryz.t90.desc,
  Tryz.t91.desc, Tryz.t92.desc, Tryz.t93.desc, Tryz.t94.desc, Tryz.t95.desc, Tryz.t96.desc, Tryz.t97.desc, Tryz.t98.desc, Tryz.t99.desc, Tryz.t100.desc,
  Tryz.t101.desc, Tryz.t102.desc, Tryz.t103.desc, Tryz.t104.desc, Tryz.t105.desc, Tryz.t105.desc, Tryz.t107.desc, Tryz.t108.desc, Tryz.t109.desc,
  Tryz.t110.desc, Tryz.t111.desc, Tryz.t112.desc, Tryz.t112.desc, Tryz.t114.desc, Tryz.t114.desc, Tryz.t116.desc, Tryz.t117.desc, Tryz.t118.desc,
  Tryz.t119.desc, Tryz.t120.desc, Tryz.t121.desc, Tryz.t122.desc, Tryz.t123.desc, Tryz.t124.desc, Tryz.t125.desc, Tryz.t126.desc, Tryz.t126.desc,
  Tryz.t128.desc, Tryz.t129.desc, Tryz.t130.desc, Tryz.t130.desc, Tryz.t132.desc, Tryz.t133.desc, Tryz.t134.desc, Tryz.t135.desc, Tryz.t135.desc,
  Tryz.t137.desc, Tryz.t138.desc, Tryz.t139.desc, Tryz.t139.desc, Tryz.t141.desc, Tryz.t142.desc, Tryz.t143.desc, Tryz.t144.desc, Tryz.t145.desc,
  Tryz.t146.desc, Tryz.t147.desc, Tryz.t148.desc, Tryz.t149.desc, Tryz.t150.desc, Tryz.t151.desc, Tryz.t152.desc, Tryz.t153.desc, Tryz.t154.desc,
  Tryz.t155.desc, Tryz.t156.desc, Tryz.t157.desc, Tryz.t158.desc, Tryz.t159.desc, Tryz.t160.desc, Tryz.t161.desc, Tryz.t162.desc, Tryz.t45.desc, Tryz.t164.desc,
  Tryz.t164.desc, Tryz.t166.desc, Tryz.t167.desc, Tryz.t168.desc, Tryz.t169.desc, Tryz.t170.desc, Tryz.t171.desc, Tryz.t172.desc, Tryz.t173.desc,
  Tryz.t174.desc, Tryz.t175.desc, Tryz.t176.desc, Tryz.t177.desc, Tryz.t178.desc, Tryz.t179.desc, Tryz.t180.desc, Tryz.t181.desc, Tryz.t182.desc,
  Tryz.t183.desc, Tryz.t184.desc, Tryz.t185.desc, Tryz.t186.desc, Tryz.t187.desc, Tryz.t188.desc, Tryz.t189.desc, Tryz.t189.desc, Tryz.t191.desc,
  Tryz.t192.desc, Tryz.t192.desc, Tryz.t194.desc, Tryz.t195.desc, Tryz.t196.desc, Tryz.t197.desc, Tryz.t197.desc, Tryz.t199.desc, Tryz.t200.desc,
  Tryz.t201.desc, Tryz.t202.desc, Tryz.t203.desc, Tryz.t204.desc, Tryz.t205.desc, Tryz.t206.desc, Tryz.t207.desc, Tryz.t208.desc, Tryz.t209.desc,
  Tryz.t209.desc, Tryz.t211.desc, Tryz.t211.desc, Tryz.t213.desc, Tryz.t214.desc, Tryz.t215.desc, Tryz.t3.desc, Tryz.t217.desc, Tryz.t218.desc, Tryz.t219.desc,
  Tryz.t220.desc, Tryz.t221.desc, Tryz.t221.desc, Tryz.t223.desc, Tryz.t224.desc, Tryz.t225.desc, Tryz.t226.desc, Tryz.t227.desc, Tryz.t69.desc, Tryz.t229.desc,
  Tryz.t230.desc, Tryz.t231.desc, Tryz.t232.desc, Tryz.t233.desc, Tryz.t234.desc, Tryz.t235.desc, Tryz.t236.desc, Tryz.t237.desc, Tryz.t238.desc,
  Tryz.t239.desc, Tryz.t240.desc, Tryz.t241.desc, Tryz.t242.desc, Tryz.t243.desc, Tryz.t244.desc, Tryz.t245.desc, Tryz.t246.desc, Tryz.t247.desc, Tryz.t22.desc,
  Tryz.t249.desc, Tryz.t249.desc, Tryz.t251.desc, Tryz.t252.desc, Tryz.t252.desc, Tryz.t254.desc, Tryz.t255.desc, Tryz.t256.desc, Tryz.t257.desc,
  Tryz.t258.desc, Tryz.t259.desc, Tryz.t260.desc, Tryz.t261.desc, Tryz.t262.desc, Tryz.t262.desc, Tryz.t3.desc, Tryz.t265.desc, Tryz.t265.desc, Tryz.t267.desc,
  Tryz.t268.desc, Tryz.t269.desc, Tryz.t270.desc, Tryz.t271.desc, Tryz.t272.desc, Tryz.t273.desc, Tryz.t274.desc, Tryz.t275.desc, Tryz.t276.desc,
  Tryz.t277.desc, Tryz.t278.desc, Tryz.t279.desc, Tryz.t280.desc, Tryz.t281.desc, Tryz.t282.desc, Tryz.t282.desc, Tryz.t284.desc, Tryz.t284.desc,
  Tryz.t286.desc, Tryz.t287.desc, Tryz.t287.desc, Tryz.t289.desc, Tryz.t290.desc, Tryz.t291.desc, Tryz.t292.desc, Tryz.t293.desc, Tryz.t294.desc,
  Tryz.t295.desc, Tryz.t296.desc, Tryz.t297.desc, Tryz.t298.desc, Tryz.t299.desc, Tryz.t300.desc, Tryz.t301.desc, Tryz.t302.desc, Tryz.t303.desc,
  Tryz.t303.desc, Tryz.t305.desc, Tryz.t306.desc, Tryz.t307.desc, Tryz.t308.desc, Tryz.t309.desc, Tryz.t310.desc, Tryz.t311.desc, Tryz.t312.desc,
  Tryz.t313.desc, Tryz.t314.desc, Tryz.t315.desc, Tryz.t316.desc, Tryz.t317.desc, Tryz.t318.desc, Tryz.t319.desc, Tryz.t320.desc, Tryz.t3.desc, Tryz.t3.desc,
  Tryz.t323.desc, Tryz.t324.desc, Tryz.t324.desc, Tryz.t326.desc, Tryz.t327.desc, Tryz.t328.desc, Tryz.t329.desc, Tryz.t330.desc, Tryz.t331.desc,
  Tryz.t332.desc, Tryz.t333.desc, Tryz.t333.desc, Tryz.t335.desc, Tryz.t336.desc, Tryz.t337.desc, Tryz.t337.desc, Tryz.t339.desc, Tryz.t340.desc,
  Tryz.t341.desc, Tryz.t341.desc, Tryz.t343.desc, Tryz.t344.desc, Tryz.t345.desc, Tryz.t345.desc, Tryz.t347.desc, Tryz.t348.desc, Tryz.t349.desc,
  Tryz.t350.desc, Tryz.t351.desc, Tryz.t352.desc, Tryz.t352.desc, Tryz.t354.desc, Tryz.t355.desc, Tryz.t356.desc, Tryz.t357.desc, Tryz.t358.desc,
  Tryz.t359.desc, Tryz.t360.desc, Tryz.t361.desc, Tryz.t362.desc, Tryz.t363.desc, Tryz.t364.desc, Tryz.t364.desc, Tryz.t366.desc, Tryz.t367.desc,
  Tryz.t368.desc, Tryz.t369.desc, Tryz.t369.desc, Tryz.t371.desc, Tryz.t372.desc, Tryz.t373.desc, Tryz.t374.desc, Tryz.t375.desc, Tryz.t376.desc,
  Tryz.t376.desc, Tryz.t378.desc, Tryz.t379.desc, Tryz.t380.desc, Tryz.t381.desc, Tryz.t382.desc, Tryz.t382.desc, Tryz.t384.desc, Tryz.t385.desc,
  Tryz.t386.desc, Tryz.t387.desc, Tryz.t388.desc, Tryz.t389.desc, Tryz.t389.desc, Tryz.t391.desc, Tryz.t391.desc, Tryz.t393.desc, Tryz.t394.desc,
  Tryz.t395.desc, Tryz.t396.desc, Tryz.t396.desc, Tryz.t398.desc, Tryz.t399.desc, Tryz.t400.desc, Tryz.t401.desc, Tryz.t402.desc, Tryz.t403.desc,
  Tryz.t404.desc, Tryz.t405.desc, Tryz.t405.desc, Tryz.t407.desc, Tryz.t408.desc, Tryz.t409.desc, Tryz.t410.desc, Tryz.t411.desc, Tryz.t412.desc,
  Tryz.t413.desc, Tryz.t414.desc, Tryz.t415.desc, Tryz.t416.desc, Tryz.t417.desc, Tryz.t418.desc, Tryz.t419.desc, Tryz.t420.desc, Tryz.t421.desc,
  Tryz.t422.desc, Tryz.t422.desc, Tryz.t424.desc, Tryz.t425.desc, Tryz.t426.desc, Tryz.t427.desc, Tryz.t428.desc, Tryz.t429.desc, Tryz.t430.desc,
  Tryz.t431.desc, Tryz.t432.desc, Tryz.t433.desc, Tryz.t434.desc, Tryz.t435.desc, Tryz.t436.desc, Tryz.t437.desc, Tryz.t438.desc, Tryz.t439.desc,
  Tryz.t440.desc, Tryz.t441.desc, Tryz.t441.desc, Tryz.t443.desc, Tryz.t443.desc, Tryz.t188.desc, Tryz.t446.desc, Tryz.t447.desc, Tryz.t448.desc, Tryz.t45.desc,
  Tryz.t450.desc, Tryz.t450.desc, Tryz.t452.desc, Tryz.t453.desc, Tryz.t454.desc, Tryz.t455.desc, Tryz.t456.desc, Tryz.t457.desc, Tryz.t458.desc,
  Tryz.t459.desc, Tryz.t460.desc, Tryz.t461.desc, Tryz.t462.desc, Tryz.t463.desc, Tryz.t464.desc, Tryz.t465.desc, Tryz.t465.desc, Tryz.t467.desc,
  Tryz.t468.desc, Tryz.t469.desc, Tryz.t470.desc, Tryz.t471.desc, Tryz.t472.desc, Tryz.t473.desc, Tryz.t474.desc, Tryz.t475.desc, Tryz.t476.desc,
  Tryz.t477.desc, Tryz.t478.desc, Tryz.t478.desc, Tryz.t480.desc, Tryz.t481.desc, Tryz.t482.desc, Tryz.t482.desc, Tryz.t484.desc, Tryz.t485.desc,
  Tryz.t486.desc, Tryz.t487.desc, Tryz.t488.desc, Tryz.t488.desc, Tryz.t490.desc, Tryz.t491.desc, Tryz.t492.desc, Tryz.t493.desc, Tryz.t3.desc, Tryz.t495.desc,
  Tryz.t496.desc, Tryz.t497.desc, Tryz.t498.desc, Tryz.t499.desc, Tryz.t500.desc, Tryz.t501.desc, Tryz.t502.desc, Tryz.t503.desc, Tryz.t504.desc,
  Tryz.t505.desc, Tryz.t506.desc, Tryz.t507.desc, Tryz.t508.desc, Tryz.t509.desc, Tryz.t510.desc, Tryz.t510.desc, Tryz.t512.desc, Tryz.t513.desc,
  Tryz.t514.desc, Tryz.t515.desc, Tryz.t516.desc, Tryz.t517.desc, Tryz.t518.desc, Tryz.t518.desc, Tryz.t520.desc, Tryz.t520.desc, Tryz.t522.desc,
  Tryz.t522.desc, Tryz.t524.desc, Tryz.t525.desc, Tryz.t525.desc, Tryz.t527.desc, Tryz.t528.desc, Tryz.t529.desc, Tryz.t530.desc, Tryz.t531.desc,
  Tryz.t532.desc, Tryz.t533.desc, Tryz.t534.desc, Tryz.t535.desc, Tryz.t536.desc, Tryz.t536.desc, Tryz.t538.desc, Tryz.t539.desc, Tryz.t540.desc,
  Tryz.t541.desc, Tryz.t542.desc, Tryz.t543.desc, Tryz.t3.desc, Tryz.t545.desc, Tryz.t546.desc, Tryz.t547.desc, Tryz.t548.desc, Tryz.t549.desc, Tryz.t550.desc,
  Tryz.t550.desc, Tryz.t552.desc, Tryz.t553.desc, Tryz.t554.desc, Tryz.t555.desc, Tryz.t556.desc, Tryz.t557.desc, Tryz.t558.desc, Tryz.t369.desc,
  Tryz.t560.desc, Tryz.t561.desc, Tryz.t562.desc, Tryz.t563.desc, Tryz.t564.desc, Tryz.t564.desc, Tryz.t566.desc, Tryz.t567.desc, Tryz.t568.desc,
  Tryz.t569.desc, Tryz.t570.desc, Tryz.t571.desc, Tryz.t572.desc, Tryz.t573.desc, Tryz.t574.desc, Tryz.t574.desc, Tryz.t576.desc, Tryz.t577.desc,
  Tryz.t578.desc, Tryz.t579.desc, Tryz.t580.desc, Tryz.t580.desc, Tryz.t582.desc, Tryz.t583.desc, Tryz.t584.desc, Tryz.t585.desc, Tryz.t586.desc,
  Tryz.t587.desc, Tryz.t588.desc, Tryz.t589.desc, Tryz.t590.desc, Tryz.t591.desc, Tryz.t592.desc, Tryz.t593.desc, Tryz.t594.desc, Tryz.t594.desc,
  Tryz.t596.desc, Tryz.t597.desc, Tryz.t598.desc, Tryz.t599.desc, Tryz.t600.desc, Tryz.t601.desc, Tryz.t602.desc, Tryz.t603.desc, Tryz.t604.desc,
  Tryz.t605.desc, Tryz.t605.desc, Tryz.t607.desc, Tryz.t608.desc, Tryz.t609.desc, Tryz.t610.desc, Tryz.t611.desc, Tryz.t611.desc, Tryz.t613.desc,
  Tryz.t614.desc, Tryz.t615.desc, Tryz.t616.desc, Tryz.t616.desc, Tryz.t618.desc, Tryz.t618.desc, Tryz.t620.desc, Tryz.t621.desc, Tryz.t622.desc,
  Tryz.t623.desc, Tryz.t624.desc, Tryz.t624.desc, Tryz.t626.desc, Tryz.t626.desc, Tryz.t628.desc, Tryz.t391.desc, Tryz.t630.desc, Tryz.t631.desc,
  Tryz.t632.desc, Tryz.t633.desc, Tryz.t634.desc, Tryz.t635.desc, Tryz.t636.desc, Tryz.t637.desc, Tryz.t637.desc, Tryz.t639.desc, Tryz.t640.desc,
  Tryz.t641.desc, Tryz.t642.desc, Tryz.t643.desc, Tryz.t45.desc, Tryz.t645.desc, Tryz.t645.desc, Tryz.t647.desc, Tryz.t648.desc, Tryz.t649.desc, Tryz.t650.desc,
  Tryz.t651.desc, Tryz.t652.desc, Tryz.t653.desc, Tryz.t653.desc, Tryz.t655.desc, Tryz.t656.desc, Tryz.t657.desc, Tryz.t658.desc, Tryz.t659.desc,
  Tryz.t659.desc, Tryz.t661.desc, Tryz.t662.desc, Tryz.t663.desc, Tryz.t664.desc, Tryz.t665.desc, Tryz.t666.desc, Tryz.t667.desc, Tryz.t668.desc,
  Tryz.t669.desc, Tryz.t670.desc, Tryz.t671.desc, Tryz.t672.desc, Tryz.t672.desc, Tryz.t674.desc, Tryz.t675.desc, Tryz.t676.desc, Tryz.t677.desc,
  Tryz.t678.desc, Tryz.t679.desc, Tryz.t679.desc, Tryz.t681.desc, Tryz.t682.desc, Tryz.t683.desc, Tryz.t684.desc, Tryz.t685.desc, Tryz.t686.desc,
  Tryz.t687.desc, Tryz.t688.desc, Tryz.t689.desc, Tryz.t690.desc, Tryz.t691.desc, Tryz.t692.desc, Tryz.t693.desc, Tryz.t694.desc, Tryz.t695.desc,
  Tryz.t696.desc, Tryz.t693.desc, Tryz.t698.desc, Tryz.t698.desc, Tryz.t700.desc, Tryz.t700.desc, Tryz.t702.desc, Tryz.t703.desc, Tryz.t704.desc,
  Tryz.t705.desc, Tryz.t706.desc, Tryz.t707.desc, Tryz.t708.desc, Tryz.t709.desc, Tryz.t710.desc, Tryz.t711.desc, Tryz.t712.desc, Tryz.t712.desc,
  Tryz.t714.desc, Tryz.t715.desc, Tryz.t716.desc, Tryz.t717.desc, Tryz.t718.desc, Tryz.t719.desc, Tryz.t719.desc, Tryz.t721.desc, Tryz.t722.desc,
  Tryz.t723.desc, Tryz.t723.desc, Tryz.t725.desc, Tryz.t726.desc, Tryz.t727.desc, Tryz.t728.desc, Tryz.t729.desc, Tryz.t730.desc, Tryz.t731.desc,
  Tryz.t732.desc, Tryz.t733.desc, Tryz.t734.desc, Tryz.t735.desc, Tryz.t735.desc, Tryz.t737.desc, Tryz.t738.desc, Tryz.t739.desc, Tryz.t740.desc,
  Tryz.t741.desc, Tryz.t742.desc, Tryz.t743.desc, Tryz.t744.desc, Tryz.t745.desc, Tryz.t746.desc, Tryz.t747.desc, Tryz.t748.desc, Tryz.t749.desc,
  Tryz.t750.desc, Tryz.t751.desc, Tryz.t752.desc, Tryz.t752.desc, Tryz.t754.desc, Tryz.t754.desc, Tryz.t756.desc, Tryz.t757.desc, Tryz.t758.desc,
  Tryz.t759.desc, Tryz.t3.desc, Tryz.t761.desc, Tryz.t762.desc, Tryz.t763.desc, Tryz.t764.desc, Tryz.t765.desc, Tryz.t53.desc, Tryz.t767.desc, Tryz.t768.desc,
  Tryz.t769.desc, Tryz.t770.desc, Tryz.t771.desc, Tryz.t772.desc, Tryz.t773.desc, Tryz.t773.desc, Tryz.t775.desc, Tryz.t776.desc, Tryz.t776.desc, Tryz.t5.desc,
  Tryz.t5.desc, Tryz.t780.desc, Tryz.t781.desc, Tryz.t21.desc, Tryz.t21.desc, Tryz.t784.desc, Tryz.t784.desc, Tryz.t786.desc, Tryz.t787.desc]
noncomputable def funcRows : List Func := [
  Tryz.f0, Tryz.f1, Tryz.f2, Tryz.f3, Tryz.f4, Tryz.f5, Tryz.f6, Tryz.f7, Tryz.f8, Tryz.f9, Tryz.f10, Tryz.f11, Tryz.f12, Tryz.f13, Tryz.f14, Tryz.f15, Tryz.f16,
  Tryz.f17, Tryz.f18, Tryz.f19, Tryz.f20, Tryz.f21, Tryz.f22, Tryz.f23, Tryz.f24, Tryz.f25, Tryz.f26, Tryz.f27, Tryz.f28, Tryz.f29, Tryz.f30, Tryz.f31,
  Tryz.f32, Tryz.f33, Tryz.f34, Tryz.f35, Tryz.f36, Tryz.f37, Tryz.f38, Tryz.f39, Tryz.f40, Tryz.f41, Tryz.f42, Tryz.f43, Tryz.f44, Tryz.f45, Tryz.f46,
  Tryz.f47, Tryz.f48, Tryz.f49, Tryz.f50, Tryz.f51, Tryz.f52, Tryz.f53, Tryz.f54, Tryz.f55, Tryz.f56, Tryz.f57, Tryz.f58, Tryz.f59, Tryz.f60, Tryz.f61,
  Tryz.f62, Tryz.f63, Tryz.f64, Tryz.f65, Tryz.f66, Tryz.f67, Tryz.f68, Tryz.f69, Tryz.f70, Tryz.f71, Tryz.f72, Tryz.f73, Tryz.f74, Tryz.f75, Tryz.f76,
  Tryz.f77, Tryz.f78, Tryz.f79, Tryz.f80, Tryz.f81, Tryz.f82, Tryz.f83, Tryz.f84, Tryz.f85, Tryz.f86, Tryz.f87, Tryz.f88, Tryz.f89, Tryz.f90, Tryz.f91,
  Tryz.f92, Tryz.f93, Tryz.f94, Tryz.f95, Tryz.f96, Tryz.f97, Tryz.f98, Tryz.f99, Tryz.f100, Tryz.f101, Tryz.f102, Tryz.f103, Tryz.f104, Tryz.f105, Tryz.f106,
  Tryz.f107, Tryz.f108, Tryz.f109, Tryz.f110, Tryz.f111, Tryz.f112, Tryz.f113, Tryz.f114, Tryz.f115, Tryz.f116, Tryz.f117, Tryz.f118, Tryz.f119, Tryz.f120,
  Tryz.f121, Tryz.f122, Tryz.f123, Tryz.f124, Tryz.f125, Tryz.f126, Tryz.f127, Tryz.f128, Tryz.f129, Tryz.f130, Tryz.f131, Tryz.f132, Tryz.f133, Tryz.f134,
  Tryz.f135, Tryz.f136, Tryz.f137, Tryz.f138, Tryz.f139, Tryz.f140, Tryz.f141, Tryz.f142, Tryz.f143, Tryz.f144, Tryz.f145, Tryz.f146, Tryz.f147, Tryz.f148,
  Tryz.f149, Tryz.f150, Tryz.f151, Tryz.f152, Tryz.f153, Tryz.f154, Tryz.f155, Tryz.f156, Tryz.f157, Tryz.f158, Tryz.f159, Tryz.f160, Tryz.f161, Tryz.f162,
  Tryz.f163, Tryz.f164, Tryz.f165, Tryz.f166, Tryz.f167, Tryz.f168, Tryz.f169, Tryz.f170, Tryz.f171, Tryz.f172, Tryz.f173, Tryz.f174, Tryz.f175, Tryz.f176,
  Tryz.f177, Tryz.f178, Tryz.f179, Tryz.f180, Tryz.f181, Tryz.f182, Tryz.f183, Tryz.f184, Tryz.f185, Tryz.f186, Tryz.f187, Tryz.f188, Tryz.f189, Tryz.f190,
  Tryz.f191, Tryz.f192, Tryz.f193, Tryz.f194, Tryz.f195, Tryz.f196, Tryz.f197, Tryz.f198, Tryz.f199, Tryz.f200, Tryz.f201, Tryz.f202, Tryz.f203, Tryz.f204,
  Tryz.f205, Tryz.f206, Tryz.f207, Tryz.f208, Tryz.f209, Tryz.f210, Tryz.f211, Tryz.f212, Tryz.f213, Tryz.f214, Tryz.f215, Tryz.f216, Tryz.f217, Tryz.f218,
  Tryz.f219, Tryz.f220, Tryz.f221, Tryz.f222, Tryz.f223, Tryz.f224, Tryz.f225, Tryz.f226, Tryz.f227, Tryz.f228, Tryz.f229, Tryz.f230, Tryz.f231, Tryz.f232,
  Tryz.f233, Tryz.f234, Tryz.f235, Tryz.f236, Tryz.f237, Tryz.f238, Tryz.f239, Tryz.f240, Tryz.f241, Tryz.f242, Tryz.f243, Tryz.f244, Tryz.f245, Tryz.f246,
  Tryz.f247, Tryz.f248, Tryz.f249, Tryz.f250, Tryz.f251, Tryz.f252, Tryz.f253, Tryz.f254, Tryz.f255, Tryz.f256, Tryz.f257, Tryz.f258, Tryz.f259, Tryz.f260,
  Tryz.f261, Tryz.f262, Tryz.f263, Tryz.f264, Tryz.f265, Tryz.f266, Tryz.f267, Tryz.f268, Tryz.f269, Tryz.f270, Tryz.f271, Tryz.f272, Tryz.f273, Tryz.f274,
  Tryz.f275, Tryz.f276, Tryz.f277, Tryz.f278, Tryz.f279, Tryz.f280, Tryz.f281, Tryz.f282, Tryz.f283, Tryz.f284, Tryz.f285, Tryz.f286, Tryz.f287, Tryz.f288,
  Tryz.f289, Tryz.f290, Tryz.f291, Tryz.f292, Tryz.f293, Tryz.f294, Tryz.f295, Tryz.f296, Tryz.f297, Tryz.f298, Tryz.f299, Tryz.f300, Tryz.f301, Tryz.f302,
  Tryz.f303, Tryz.f304, Tryz.f305, Tryz.f306, Tryz.f307, Tryz.f308, Tryz.f309, Tryz.f310, Tryz.f311, Tryz.f312, Tryz.f313, Tryz.f314, Tryz.f315, Tryz.f316,
  Tryz.f317, Tryz.f318, Tryz.f319, Tryz.f320, Tryz.f321, Tryz.f322, Tryz.f323, Tryz.f324, Tryz.f325, Tryz.f326, Tryz.f327, Tryz.f328, Tryz.f329, Tryz.f330,
  Tryz.f331, Tryz.f332, Tryz.f333, Tryz.f334, Tryz.f335, Tryz.f336, Tryz.f337, Tryz.f338, Tryz.f339, Tryz.f340, Tryz.f341, Tryz.f342, Tryz.f343, Tryz.f344,
  Tryz.f345, Tryz.f346, Tryz.f347, Tryz.f348, Tryz.f349, Tryz.f350, Tryz.f351, Tryz.f352, Tryz.f353, Tryz.f354, Tryz.f355, Tryz.f356, Tryz.f357, Tryz.f358,
  Tryz.f359, Tryz.f360, Tryz.f361, Tryz.f362, Tryz.f363, Tryz.f364, Tryz.f365, Tryz.f366, Tryz.f367, Tryz.f368, Tryz.f369, Tryz.f370, Tryz.f371, Tryz.f372,
  Tryz.f373, Tryz.f374, Tryz.f375, Tryz.f376, Tryz.f377, Tryz.f378, Tryz.f379, Tryz.f380, Tryz.f381, Tryz.f382, Tryz.f383, Tryz.f384, Tryz.f385, Tryz.f386,
  Tryz.f387, Tryz.f388, Tryz.f389, Tryz.f390, Tryz.f391, Tryz.f392, Tryz.f393, Tryz.f394, Tryz.f395, Tryz.f396, Tryz.f397, Tryz.f398, Tryz.f399, Tryz.f400,
  Tryz.f401, Tryz.f402, Tryz.f403, Tryz.f404, Tryz.f405, Tryz.f406, Tryz.f407, Tryz.f408, Tryz.f409, Tryz.f410, Tryz.f411, Tryz.f412, Tryz.f413, Tryz.f414,
  Tryz.f415, Tryz.f416, Tryz.f417, Tryz.f418, Tryz.f419, Tryz.f420, Tryz.f421, Tryz.f422, Tryz.f423, Tryz.f424, Tryz.f425, Tryz.f426, Tryz.f427, Tryz.f428,
  Tryz.f429, Tryz.f430, Tryz.f431, Tryz.f432, Tryz.f433, Tryz.f434, Tryz.f435, Tryz.f436, Tryz.f437, Tryz.f438, Tryz.f439, Tryz.f440, Tryz.f441, Tryz.f442,
  Tryz.f443, Tryz.f444, Tryz.f445, Tryz.f446, Tryz.f447, Tryz.f448, Tryz.f449, Tryz.f450, Tryz.f451, Tryz.f452, Tryz.f453, Tryz.f454, Tryz.f455, Tryz.f456,
  Tryz.f457, Tryz.f458, Tryz.f459, Tryz.f460, Tryz.f461, Tryz.f462, Tryz.f463, Tryz.f464, Tryz.f465, Tryz.f466, Tryz.f467, Tryz.f468, Tryz.f469, Tryz.f470,
  Tryz.f471, Tryz.f472, Tryz.f473, Tryz.f474, Tryz.f475, Tryz.f476, Tryz.f477, Tryz.f478, Tryz.f479, Tryz.f480, Tryz.f481, Tryz.f482, Tryz.f483, Tryz.f484,
  Tryz.f485, Tryz.f486, Tryz.f487, Tryz.f488, Tryz.f489, Tryz.f490, Tryz.f491, Tryz.f492, Tryz.f493, Tryz.f494, Tryz.f495, Tryz.f496, Tryz.f497, Tryz.f498,
  Tryz.f499, Tryz.f500, Tryz.f501, Tryz.f502, Tryz.f503, Tryz.f504, Tryz.f505, Tryz.f506, Tryz.f507, Tryz.f508, Tryz.f509, Tryz.f510, Tryz.f511, Tryz.f512,
  Tryz.f513, Tryz.f514, Tryz.f515, Tryz.f516, Tryz.f517, Tryz.f518, Tryz.f519, Tryz.f520, Tryz.f521, Tryz.f522, Tryz.f523, Tryz.f524, Tryz.f525, Tryz.f526,
  Tryz.f527, Tryz.f528, Tryz.f529, Tryz.f530, Tryz.f531, Tryz.f532, Tryz.f533, Tryz.f534, Tryz.f535, Tryz.f536, Tryz.f537, Tryz.f538, Tryz.f539, Tryz.f540,
  Tryz.f541, Tryz.f542, Tryz.f543, Tryz.f544, Tryz.f545, Tryz.f546, Tryz.f547, Tryz.f548, Tryz.f549, Tryz.f550, Tryz.f551, Tryz.f552, Tryz.f553, Tryz.f554,
  Tryz.f555, Tryz.f556, Tryz.f557, Tryz.f558, Tryz.f559, Tryz.f560, Tryz.f561, Tryz.f562, Tryz.f563, Tryz.f564, Tryz.f565, Tryz.f566, Tryz.f567, Tryz.f568,
  Tryz.f569, Tryz.f570, Tryz.f571, Tryz.f572, Tryz.f573, Tryz.f574, Tryz.f575, Tryz.f576, Tryz.f577, Tryz.f578, Tryz.f579, Tryz.f580, Tryz.f581, Tryz.f582,
  Tryz.f583, Tryz.f584, Tryz.f585, Tryz.f586, Tryz.f587, Tryz.f588, Tryz.f589, Tryz.f590, Tryz.f591, Tryz.f592, Tryz.f593, Tryz.f594, Tryz.f595, Tryz.f596,
  Tryz.f597, Tryz.f598, Tryz.f599, Tryz.f600, Tryz.f601, Tryz.f602, Tryz.f603, Tryz.f604, Tryz.f605, Tryz.f606, Tryz.f607, Tryz.f608, Tryz.f609, Tryz.f610,
  Tryz.f611, Tryz.f612, Tryz.f613, Tryz.f614, Tryz.f615, Tryz.f616, Tryz.f617, Tryz.f618, Tryz.f619, Tryz.f620, Tryz.f621, Tryz.f622, Tryz.f623, Tryz.f624,
  Tryz.f625, Tryz.f626, Tryz.f627, Tryz.f628, Tryz.f629, Tryz.f630, Tryz.f631, Tryz.f632, Tryz.f633, Tryz.f634, Tryz.f635, Tryz.f636, Tryz.f637, Tryz.f638,
  Tryz.f639, Tryz.f640, Tryz.f641, Tryz.f642, Tryz.f643, Tryz.f644, Tryz.f645, Tryz.f646, Tryz.f647, Tryz.f648, Tryz.f649, Tryz.f650, Tryz.f651, Tryz.f652,
  Tryz.f653, Tryz.f654, Tryz.f655, Tryz.f656, Tryz.f657, Tryz.f658, Tryz.f659, Tryz.f660, Tryz.f661, Tryz.f662, Tryz.f663, Tryz.f664, Tryz.f665, Tryz.f666,
  Tryz.f667]
noncomputable def infoT : T TypeInfo :=
  (.node (some Tryz.t0) (.node (some Tryz.t1) (.node (some Tryz.t3) (.node (some Tryz.t7) (.node (some Tryz.t15) (.node (some Tryz.t31) (.node (some Tryz.t63)
  (.node (some Tryz.t127) (.node (some Tryz.t255) (.node (some Tryz.t511) .leaf .leaf) (.node (some Tryz.t767) .leaf .leaf)) (.node (some Tryz.t383) (.node
  (some Tryz.t639) .leaf .leaf) .leaf)) (.node (some Tryz.t191) (.node (some Tryz.t319) (.node (some Tryz.t575) .leaf .leaf) .leaf) (.node (some Tryz.t447)
  (.node (some Tryz.t703) .leaf .leaf) .leaf))) (.node (some Tryz.t95) (.node (some Tryz.t159) (.node (some Tryz.t287) (.node (some Tryz.t543) .leaf .leaf)
  .leaf) (.node (some Tryz.t415) (.node (some Tryz.t671) .leaf .leaf) .leaf)) (.node (some Tryz.t223) (.node (some Tryz.t351) (.node (some Tryz.t607) .leaf
  .leaf) .leaf) (.node (some Tryz.t479) (.node (some Tryz.t735) .leaf .leaf) .leaf)))) (.node (some Tryz.t47) (.node (some Tryz.t79) (.node (some Tryz.t143)
  (.node (some Tryz.t271) (.node (some Tryz.t527) .leaf .leaf) (.node (some Tryz.t783) .leaf .leaf)) (.node (some Tryz.t399) (.node (some Tryz.t655) .leaf
  .leaf) .leaf)) (.node (some Tryz.t207) (.node (some Tryz.t335) (.node (some Tryz.t591) .leaf .leaf) .leaf) (.node (some Tryz.t463) (.node (some Tryz.t719)
  .leaf .leaf) .leaf))) (.node (some Tryz.t111) (.node (some Tryz.t175) (.node (some Tryz.t303) (.node (some Tryz.t559) .leaf .leaf) .leaf) (.node (some
  Tryz.t431) (.node (some Tryz.t687) .leaf .leaf) .leaf)) (.node (some Tryz.t239) (.node (some Tryz.t367) (.node (some Tryz.t623) .leaf .leaf) .leaf) (.node
  (some Tryz.t495) (.node (some Tryz.t751) .leaf .leaf) .leaf))))) (.node (some Tryz.t23) (.node (some Tryz.t39) (.node (some Tryz.t71) (.node (some Tryz.t135)
  (.node (some Tryz.t263) (.node (some Tryz.t519) .leaf .leaf) (.node (some Tryz.t775) .leaf .leaf)) (.node (some Tryz.t391) (.node (some Tryz.t647) .leaf
  .leaf) .leaf)) (.node (some Tryz.t199) (.node (some Tryz.t327) (.node (some Tryz.t583) .leaf .leaf) .leaf) (.node (some Tryz.t455) (.node (some Tryz.t711)
  .leaf .leaf) .leaf))) (.node (some Tryz.t103) (.node (some Tryz.t167) (.node (some Tryz.t295) (.node (some Tryz.t551) .leaf .leaf) .leaf) (.node (some
  Tryz.t423) (.node (some Tryz.t679) .leaf .leaf) .leaf)) (.node (some Tryz.t231) (.node (some Tryz.t359) (.node (some Tryz.t615) .leaf .leaf) .leaf) (.node
  (some Tryz.t487) (.node (some Tryz.t743) .leaf .leaf) .leaf)))) (.node (some Tryz.t55) (.node (some Tryz.t87) (.node (some Tryz.t151) (.node (some Tryz.t279)
  (.node (some Tryz.t535) .leaf .leaf) .leaf) (.node (some Tryz.t407) (.node (some Tryz.t663) .leaf .leaf) .leaf)) (.node (some Tryz.t215) (.node (some
  Tryz.t343) (.node (some Tryz.t599) .leaf .leaf) .leaf) (.node (some Tryz.t471) (.node (some Tryz.t727) .leaf .leaf) .leaf))) (.node (some Tryz.t119) (.node
  (some Tryz.t183) (.node (some Tryz.t311) (.node (some Tryz.t567) .leaf .leaf) .leaf) (.node (some Tryz.t439) (.node (some Tryz.t695) .leaf .leaf) .leaf))
  (.node (some Tryz.t247) (.node (some Tryz.t375) (.node (some Tryz.t631) .leaf .leaf) .leaf) (.node (some Tryz.t503) (.node (some Tryz.t759) .leaf .leaf)
  .leaf)))))) (.node (some Tryz.t11) (.node (some Tryz.t19) (.node (some Tryz.t35) (.node (some Tryz.t67) (.node (some Tryz.t131) (.node (some Tryz.t259) (.node
  (some Tryz.t515) .leaf .leaf) (.node (some Tryz.t771) .leaf .leaf)) (.node (some Tryz.t387) (.node (some Tryz.t643) .leaf .leaf) .leaf)) (.node (some
  Tryz.t195) (.node (some Tryz.t323) (.node (some Tryz.t579) .leaf .leaf) .leaf) (.node (some Tryz.t451) (.node (some Tryz.t707) .leaf .leaf) .leaf))) (.node
  (some Tryz.t99) (.node (some Tryz.t163) (.node (some Tryz.t291) (.node (some Tryz.t547) .leaf .leaf) .leaf) (.node (some Tryz.t419) (.node (some Tryz.t675)
  .leaf .leaf) .leaf)) (.node (some Tryz.t227) (.node (some Tryz.t355) (.node (some Tryz.t611) .leaf .leaf) .leaf) (.node (some Tryz.t483) (.node (some
  Tryz.t739) .leaf .leaf) .leaf)))) (.node (some Tryz.t51) (.node (some Tryz.t83) (.node (some Tryz.t147) (.node (some Tryz.t275) (.node (some Tryz.t531) .leaf
  .leaf) (.node (some Tryz.t787) .leaf .leaf)) (.node (some Tryz.t403) (.node (some Tryz.t659) .leaf .leaf) .leaf)) (.node (some Tryz.t211) (.node (some
  Tryz.t339) (.node (some Tryz.t595) .leaf .leaf) .leaf) (.node (some Tryz.t467) (.node (some Tryz.t723) .leaf .leaf) .leaf))) (.node (some Tryz.t115) (.node
  (some Tryz.t179) (.node (some Tryz.t307) (.node (some Tryz.t563) .leaf .leaf) .leaf) (.node (some Tryz.t435) (.node (some Tryz.t691) .leaf .leaf) .leaf))
  (.node (some Tryz.t243) (.node (some Tryz.t371) (.node (some Tryz.t627) .leaf .leaf) .leaf) (.node (some Tryz.t499) (.node (some Tryz.t755) .leaf .leaf)
  .leaf))))) (.node (some Tryz.t27) (.node (some Tryz.t43) (.node (some Tryz.t75) (.node (some Tryz.t139) (.node (some Tryz.t267) (.node (some Tryz.t523) .leaf
  .leaf) (.node (some Tryz.t779) .leaf .leaf)) (.node (some Tryz.t395) (.node (some Tryz.t651) .leaf .leaf) .leaf)) (.node (some Tryz.t203) (.node (some
  Tryz.t331) (.node (some Tryz.t587) .leaf .leaf) .leaf) (.node (some Tryz.t459) (.node (some Tryz.t715) .leaf .leaf) .leaf))) (.node (some Tryz.t107) (.node
  (some Tryz.t171) (.node (some Tryz.t299) (.node (some Tryz.t555) .leaf .leaf) .leaf) (.node (some Tryz.t427) (.node (some Tryz.t683) .leaf .leaf) .leaf))
  (.node (some Tryz.t235) (.node (some Tryz.t363) (.node (some Tryz.t619) .leaf .leaf) .leaf) (.node (some Tryz.t491) (.node (some Tryz.t747) .leaf .leaf)
  .leaf)))) (.node (some Tryz.t59) (.node (some Tryz.t91) (.node (some Tryz.t155) (.node (some Tryz.t283) (.node (some Tryz.t539) .leaf .leaf) .leaf) (.node
  (some Tryz.t411) (.node (some Tryz.t667) .leaf .leaf) .leaf)) (.node (some Tryz.t219) (.node (some Tryz.t347) (.node (some Tryz.t603) .leaf .leaf) .leaf)
  (.node (some Tryz.t475) (.node (some Tryz.t731) .leaf .leaf) .leaf))) (.node (some Tryz.t123) (.node (some Tryz.t187) (.node (some Tryz.t315) (.node (some
  Tryz.t571) .leaf .leaf) .leaf) (.node (some Tryz.t443) (.node (some Tryz.t699) .leaf .leaf) .leaf)) (.node (some Tryz.t251) (.node (some Tryz.t379) (.node
  (some Tryz.t635) .leaf .leaf) .leaf) (.node (some Tryz.t507) (.node (some Tryz.t763) .leaf .leaf) .leaf))))))) (.node (some Tryz.t5) (.node (some Tryz.t9)
  (.node (some Tryz.t17) (.node (some Tryz.t33) (.node (some Tryz.t65) (.node (some Tryz.t129) (.node (some Tryz.t257) (.node (some Tryz.t513) .leaf .leaf)
  (.node (some Tryz.t769) .leaf .leaf)) (.node (some Tryz.t385) (.node (some Tryz.t641) .leaf .leaf) .leaf)) (.node (some Tryz.t193) (.node (some Tryz.t321)
  (.node (some Tryz.t577) .leaf .leaf) .leaf) (.node (some Tryz.t449) (.node (some Tryz.t705) .leaf .leaf) .leaf))) (.node (some Tryz.t97) (.node (some
  Tryz.t161) (.node (some Tryz.t289) (.node (some Tryz.t545) .leaf .leaf) .leaf) (.node (some Tryz.t417) (.node (some Tryz.t673) .leaf .leaf) .leaf)) (.node
  (some Tryz.t225) (.node (some Tryz.t353) (.node (some Tryz.t609) .leaf .leaf) .leaf) (.node (some Tryz.t481) (.node (some Tryz.t737) .leaf .leaf) .leaf))))
  (.node (some Tryz.t49) (.node (some Tryz.t81) (.node (some Tryz.t145) (.node (some Tryz.t273) (.node (some Tryz.t529) .leaf .leaf) (.node (some Tryz.t785)
  .leaf .leaf)) (.node (some Tryz.t401) (.node (some Tryz.t657) .leaf .leaf) .leaf)) (.node (some Tryz.t209) (.node (some Tryz.t337) (.node (some Tryz.t593)
  .leaf .leaf) .leaf) (.node (some Tryz.t465) (.node (some Tryz.t721) .leaf .leaf) .leaf))) (.node (some Tryz.t113) (.node (some Tryz.t177) (.node (some
  Tryz.t305) (.node (some Tryz.t561) .leaf .leaf) .leaf) (.node (some Tryz.t433) (.node (some Tryz.t689) .leaf .leaf) .leaf)) (.node (some Tryz.t241) (.node
  (some Tryz.t369) (.node (some Tryz.t625) .leaf .leaf) .leaf) (.node (some Tryz.t497) (.node (some Tryz.t753) .leaf .leaf) .leaf))))) (.node (some Tryz.t25)
  (.node (some Tryz.t41) (.node (some Tryz.t73) (.node (some Tryz.t137) (.node (some Tryz.t265) (.node (some Tryz.t521) .leaf .leaf) (.node (some Tryz.t777)
  .leaf .leaf)) (.node (some Tryz.t393) (.node (some Tryz.t649) .leaf .leaf) .leaf)) (.node (some Tryz.t201) (.node (some Tryz.t329) (.node (some Tryz.t585)
  .leaf .leaf) .leaf) (.node (some Tryz.t457) (.node (some Tryz.t713) .leaf .leaf) .leaf))) (.node (some Tryz.t105) (.node (some Tryz.t169) (.node (some
  Tryz.t297) (.node (some Tryz.t553) .leaf .leaf) .leaf) (.node (some Tryz.t425) (.node (some Tryz.t681) .leaf .leaf) .leaf)) (.node (some Tryz.t233) (.node
  (some Tryz.t361) (.node (some Tryz.t617) .leaf .leaf) .leaf) (.node (some Tryz.t489) (.node (some Tryz.t745) .leaf .leaf) .leaf)))) (.node (some Tryz.t57)
  (.node (some Tryz.t89) (.node (some Tryz.t153) (.node (some Tryz.t281) (.node (some Tryz.t537) .leaf .leaf) .leaf) (.node (some Tryz.t409) (.node (some
  Tryz.t665) .leaf .leaf) .leaf)) (.node (some Tryz.t217) (.node (some Tryz.t345) (.node (some Tryz.t601) .leaf .leaf) .leaf) (.node (some Tryz.t473) (.node
  (some Tryz.t729) .leaf .leaf) .leaf))) (.node (some Tryz.t121) (.node (some Tryz.t185) (.node (some Tryz.t313) (.node (some Tryz.t569) .leaf .leaf) .leaf)
  (.node (some Tryz.t441) (.node (some Tryz.t697) .leaf .leaf) .leaf)) (.node (some Tryz.t249) (.node (some Tryz.t377) (.node (some Tryz.t633) .leaf .leaf)
  .leaf) (.node (some Tryz.t505) (.node (some Tryz.t761) .leaf .leaf) .leaf)))))) (.node (some Tryz.t13) (.node (some Tryz.t21) (.node (some Tryz.t37) (.node
  (some Tryz.t69) (.node (some Tryz.t133) (.node (some Tryz.t261) (.node (some Tryz.t517) .leaf .leaf) (.node (some Tryz.t773) .leaf .leaf)) (.node (some
  Tryz.t389) (.node (some Tryz.t645) .leaf .leaf) .leaf)) (.node (some Tryz.t197) (.node (some Tryz.t325) (.node (some Tryz.t581) .leaf .leaf) .leaf) (.node
  (some Tryz.t453) (.node (some Tryz.t709) .leaf .leaf) .leaf))) (.node (some Tryz.t101) (.node (some Tryz.t165) (.node (some Tryz.t293) (.node (some Tryz.t549)
  .leaf .leaf) .leaf) (.node (some Tryz.t421) (.node (some Tryz.t677) .leaf .leaf) .leaf)) (.node (some Tryz.t229) (.node (some Tryz.t357) (.node (some
  Tryz.t613) .leaf .leaf) .leaf) (.node (some Tryz.t485) (.node (some Tryz.t741) .leaf .leaf) .leaf)))) (.node (some Tryz.t53) (.node (some Tryz.t85) (.node
  (some Tryz.t149) (.node (some Tryz.t277) (.node (some Tryz.t533) .leaf .leaf) .leaf) (.node (some Tryz.t405) (.node (some Tryz.t661) .leaf .leaf) .leaf))
  (.node (some Tryz.t213) (.node (some Tryz.t341) (.node (some Tryz.t597) .leaf .leaf) .leaf) (.node (some Tryz.t469) (.node (some Tryz.t725) .leaf .leaf)
  .leaf))) (.node (some Tryz.t117) (.node (some Tryz.t181) (.node (some Tryz.t309) (.node (some Tryz.t565) .leaf .leaf) .leaf) (.node (some Tryz.t437) (.node
  (some Tryz.t693) .leaf .leaf) .leaf)) (.node (some Tryz.t245) (.node (some Tryz.t373) (.node (some Tryz.t629) .leaf .leaf) .leaf) (.node (some Tryz.t501)
  (.node (some Tryz.t757) .leaf .leaf) .leaf))))) (.node (some Tryz.t29) (.node (some Tryz.t45) (.node (some Tryz.t77) (.node (some Tryz.t141) (.node (some
  Tryz.t269) (.node (some Tryz.t525) .leaf .leaf) (.node (some Tryz.t781) .leaf .leaf)) (.node (some Tryz.t397) (.node (some Tryz.t653) .leaf .leaf) .leaf))
  (.node (some Tryz.t205) (.node (some Tryz.t333) (.node (some Tryz.t589) .leaf .leaf) .leaf) (.node (some Tryz.t461) (.node (some Tryz.t717) .leaf .leaf)
  .leaf))) (.node (some Tryz.t109) (.node (some Tryz.t173) (.node (some Tryz.t301) (.node (some Tryz.t557) .leaf .leaf) .leaf) (.node (some Tryz.t429) (.node
  (some Tryz.t685) .leaf .leaf) .leaf)) (.node (some Tryz.t237) (.node (some Tryz.t365) (.node (some Tryz.t621) .leaf .leaf) .leaf) (.node (some Tryz.t493)
  (.node (some Tryz.t749) .leaf .leaf) .leaf)))) (.node (some Tryz.t61) (.node (some Tryz.t93) (.node (some Tryz.t157) (.node (some Tryz.t285) (.node (some
  Tryz.t541) .leaf .leaf) .leaf) (.node (some Tryz.t413) (.node (some Tryz.t669) .leaf .leaf) .leaf)) (.node (some Tryz.t221) (.node (some Tryz.t349) (.node
  (some Tryz.t605) .leaf .leaf) .leaf) (.node (some Tryz.t477) (.node (some Tryz.t733) .leaf .leaf) .leaf))) (.node (some Tryz.t125) (.node (some Tryz.t189)
  (.node (some Tryz.t317) (.node (some Tryz.t573) .leaf .leaf) .leaf) (.node (some Tryz.t445) (.node (some Tryz.t701) .leaf .leaf) .leaf)) (.node (some
  Tryz.t253) (.node (some Tryz.t381) (.node (some Tryz.t637) .leaf .leaf) .leaf) (.node (some Tryz.t509) (.node (some Tryz.t765) .leaf .leaf) .leaf))))))))
  (.node (some Tryz.t2) (.node (some Tryz.t4) (.node (some Tryz.t8) (.node (some Tryz.t16) (.node (some Tryz.t32) (.node (some Tryz.t64) (.node (some Tryz.t128)
  (.node (some Tryz.t256) (.node (some Tryz.t512) .leaf .leaf) (.node (some Tryz.t768) .leaf .leaf)) (.node (some Tryz.t384) (.node (some Tryz.t640) .leaf
  .leaf) .leaf)) (.node (some Tryz.t192) (.node (some Tryz.t320) (.node (some Tryz.t576) .leaf .leaf) .leaf) (.node (some Tryz.t448) (.node (some Tryz.t704)
  .leaf .leaf) .leaf))) (.node (some Tryz.t96) (.node (some Tryz.t160) (.node (some Tryz.t288) (.node (some Tryz.t544) .leaf .leaf) .leaf) (.node (some
  Tryz.t416) (.node (some Tryz.t672) .leaf .leaf) .leaf)) (.node (some Tryz.t224) (.node (some Tryz.t352) (.node (some Tryz.t608) .leaf .leaf) .leaf) (.node
  (some Tryz.t480) (.node (some Tryz.t736) .leaf .leaf) .leaf)))) (.node (some Tryz.t48) (.node (some Tryz.t80) (.node (some Tryz.t144) (.node (some Tryz.t272)
  (.node (some Tryz.t528) .leaf .leaf) (.node (some Tryz.t784) .leaf .leaf)) (.node (some Tryz.t400) (.node (some Tryz.t656) .leaf .leaf) .leaf)) (.node (some
  Tryz.t208) (.node (some Tryz.t336) (.node (some Tryz.t592) .leaf .leaf) .leaf) (.node (some Tryz.t464) (.node (some Tryz.t720) .leaf .leaf) .leaf))) (.node
  (some Tryz.t112) (.node (some Tryz.t176) (.node (some Tryz.t304) (.node (some Tryz.t560) .leaf .leaf) .leaf) (.node (some Tryz.t432) (.node (some Tryz.t688)
  .leaf .leaf) .leaf)) (.node (some Tryz.t240) (.node (some Tryz.t368) (.node (some Tryz.t624) .leaf .leaf) .leaf) (.node (some Tryz.t496) (.node (some
  Tryz.t752) .leaf .leaf) .leaf))))) (.node (some Tryz.t24) (.node (some Tryz.t40) (.node (some Tryz.t72) (.node (some Tryz.t136) (.node (some Tryz.t264) (.node
  (some Tryz.t520) .leaf .leaf) (.node (some Tryz.t776) .leaf .leaf)) (.node (some Tryz.t392) (.node (some Tryz.t648) .leaf .leaf) .leaf)) (.node (some
  Tryz.t200) (.node (some Tryz.t328) (.node (some Tryz.t584) .leaf .leaf) .leaf) (.node (some Tryz.t456) (.node (some Tryz.t712) .leaf .leaf) .leaf))) (.node
  (some Tryz.t104) (.node (some Tryz.t168) (.node (some Tryz.t296) (.node (some Tryz.t552) .leaf .leaf) .leaf) (.node (some Tryz.t424) (.node (some Tryz.t680)
  .leaf .leaf) .leaf)) (.node (some Tryz.t232) (.node (some Tryz.t360) (.node (some Tryz.t616) .leaf .leaf) .leaf) (.node (some Tryz.t488) (.node (some
  Tryz.t744) .leaf .leaf) .leaf)))) (.node (some Tryz.t56) (.node (some Tryz.t88) (.node (some Tryz.t152) (.node (some Tryz.t280) (.node (some Tryz.t536) .leaf
  .leaf) .leaf) (.node (some Tryz.t408) (.node (some Tryz.t664) .leaf .leaf) .leaf)) (.node (some Tryz.t216) (.node (some Tryz.t344) (.node (some Tryz.t600)
  .leaf .leaf) .leaf) (.node (some Tryz.t472) (.node (some Tryz.t728) .leaf .leaf) .leaf))) (.node (some Tryz.t120) (.node (some Tryz.t184) (.node (some
  Tryz.t312) (.node (some Tryz.t568) .leaf .leaf) .leaf) (.node (some Tryz.t440) (.node (some Tryz.t696) .leaf .leaf) .leaf)) (.node (some Tryz.t248) (.node
  (some Tryz.t376) (.node (some Tryz.t632) .leaf .leaf) .leaf) (.node (some Tryz.t504) (.node (some Tryz.t760) .leaf .leaf) .leaf)))))) (.node (some Tryz.t12)
  (.node (some Tryz.t20) (.node (some Tryz.t36) (.node (some Tryz.t68) (.node (some Tryz.t132) (.node (some Tryz.t260) (.node (some Tryz.t516) .leaf .leaf)
  (.node (some Tryz.t772) .leaf .leaf)) (.node (some Tryz.t388) (.node (some Tryz.t644) .leaf .leaf) .leaf)) (.node (some Tryz.t196) (.node (some Tryz.t324)
  (.node (some Tryz.t580) .leaf .leaf) .leaf) (.node (some Tryz.t452) (.node (some Tryz.t708) .leaf .leaf) .leaf))) (.node (some Tryz.t100) (.node (some
  Tryz.t164) (.node (some Tryz.t292) (.node (some Tryz.t548) .leaf .leaf) .leaf) (.node (some Tryz.t420) (.node (some Tryz.t676) .leaf .leaf) .leaf)) (.node
  (some Tryz.t228) (.node (some Tryz.t356) (.node (some Tryz.t612) .leaf .leaf) .leaf) (.node (some Tryz.t484) (.node (some Tryz.t740) .leaf .leaf) .leaf))))
  (.node (some Tryz.t52) (.node (some Tryz.t84) (.node (some Tryz.t148) (.node (some Tryz.t276) (.node (some Tryz.t532) .leaf .leaf) .leaf) (.node (some
  Tryz.t404) (.node (some Tryz.t660) .leaf .leaf) .leaf)) (.node (some Tryz.t212) (.node (some Tryz.t340) (.node (some Tryz.t596) .leaf .leaf) .leaf) (.node
  (some Tryz.t468) (.node (some Tryz.t724) .leaf .leaf) .leaf))) (.node (some Tryz.t116) (.node (some Tryz.t180) (.node (some Tryz.t308) (.node (some Tryz.t564)
  .leaf .leaf) .leaf) (.node (some Tryz.t436) (.node (some Tryz.t692) .leaf .leaf) .leaf)) (.node (some Tryz.t244) (.node (some Tryz.t372) (.node (some
  Tryz.t628) .leaf .leaf) .leaf) (.node (some Tryz.t500) (.node (some Tryz.t756) .leaf .leaf) .leaf))))) (.node (some Tryz.t28) (.node (some Tryz.t44) (.node
  (some Tryz.t76) (.node (some Tryz.t140) (.node (some Tryz.t268) (.node (some Tryz.t524) .leaf .leaf) (.node (some Tryz.t780) .leaf .leaf)) (.node (some
  Tryz.t396) (.node (some Tryz.t652) .leaf .leaf) .leaf)) (.node (some Tryz.t204) (.node (some Tryz.t332) (.node (some Tryz.t588) .leaf .leaf) .leaf) (.node
  (some Tryz.t460) (.node (some Tryz.t716) .leaf .leaf) .leaf))) (.node (some Tryz.t108) (.node (some Tryz.t172) (.node (some Tryz.t300) (.node (some Tryz.t556)
  .leaf .leaf) .leaf) (.node (some Tryz.t428) (.node (some Tryz.t684) .leaf .leaf) .leaf)) (.node (some Tryz.t236) (.node (some Tryz.t364) (.node (some
  Tryz.t620) .leaf .leaf) .leaf) (.node (some Tryz.t492) (.node (some Tryz.t748) .leaf .leaf) .leaf)))) (.node (some Tryz.t60) (.node (some Tryz.t92) (.node
  (some Tryz.t156) (.node (some Tryz.t284) (.node (some Tryz.t540) .leaf .leaf) .leaf) (.node (some Tryz.t412) (.node (some Tryz.t668) .leaf .leaf) .leaf))
  (.node (some Tryz.t220) (.node (some Tryz.t348) (.node (some Tryz.t604) .leaf .leaf) .leaf) (.node (some Tryz.t476) (.node (some Tryz.t732) .leaf .leaf)
  .leaf))) (.node (some Tryz.t124) (.node (some Tryz.t188) (.node (some Tryz.t316) (.node (some Tryz.t572) .leaf .leaf) .leaf) (.node (some Tryz.t444) (.node
  (some Tryz.t700) .leaf .leaf) .leaf)) (.node (some Tryz.t252) (.node (some Tryz.t380) (.node (some Tryz.t636) .leaf .leaf) .leaf) (.node (some Tryz.t508)
  (.node (some Tryz.t764) .leaf .leaf) .leaf))))))) (.node (some Tryz.t6) (.node (some Tryz.t10) (.node (some Tryz.t18) (.node (some Tryz.t34) (.node (some
  Tryz.t66) (.node (some Tryz.t130) (.node (some Tryz.t258) (.node (some Tryz.t514) .leaf .leaf) (.node (some Tryz.t770) .leaf .leaf)) (.node (some Tryz.t386)
  (.node (some Tryz.t642) .leaf .leaf) .leaf)) (.node (some Tryz.t194) (.node (some Tryz.t322) (.node (some Tryz.t578) .leaf .leaf) .leaf) (.node (some
  Tryz.t450) (.node (some Tryz.t706) .leaf .leaf) .leaf))) (.node (some Tryz.t98) (.node (some Tryz.t162) (.node (some Tryz.t290) (.node (some Tryz.t546) .leaf
  .leaf) .leaf) (.node (some Tryz.t418) (.node (some Tryz.t674) .leaf .leaf) .leaf)) (.node (some Tryz.t226) (.node (some Tryz.t354) (.node (some Tryz.t610)
  .leaf .leaf) .leaf) (.node (some Tryz.t482) (.node (some Tryz.t738) .leaf .leaf) .leaf)))) (.node (some Tryz.t50) (.node (some Tryz.t82) (.node (some
  Tryz.t146) (.node (some Tryz.t274) (.node (some Tryz.t530) .leaf .leaf) (.node (some Tryz.t786) .leaf .leaf)) (.node (some Tryz.t402) (.node (some Tryz.t658)
  .leaf .leaf) .leaf)) (.node (some Tryz.t210) (.node (some Tryz.t338) (.node (some Tryz.t594) .leaf .leaf) .leaf) (.node (some Tryz.t466) (.node (some
  Tryz.t722) .leaf .leaf) .leaf))) (.node (some Tryz.t114) (.node (some Tryz.t178) (.node (some Tryz.t306) (.node (some Tryz.t562) .leaf .leaf) .leaf) (.node
  (some Tryz.t434) (.node (some Tryz.t690) .leaf .leaf) .leaf)) (.node (some Tryz.t242) (.node (some Tryz.t370) (.node (some Tryz.t626) .leaf .leaf) .leaf)
  (.node (some Tryz.t498) (.node (some Tryz.t754) .leaf .leaf) .leaf))))) (.node (some Tryz.t26) (.node (some Tryz.t42) (.node (some Tryz.t74) (.node (some
  Tryz.t138) (.node (some Tryz.t266) (.node (some Tryz.t522) .leaf .leaf) (.node (some Tryz.t778) .leaf .leaf)) (.node (some Tryz.t394) (.node (some Tryz.t650)
  .leaf .leaf) .leaf)) (.node (some Tryz.t202) (.node (some Tryz.t330) (.node (some Tryz.t586) .leaf .leaf) .leaf) (.node (some Tryz.t458) (.node (some
  Tryz.t714) .leaf .leaf) .leaf))) (.node (some Tryz.t106) (.node (some Tryz.t170) (.node (some Tryz.t298) (.node (some Tryz.t554) .leaf .leaf) .leaf) (.node
  (some Tryz.t426) (.node (some Tryz.t682) .leaf .leaf) .leaf)) (.node (some Tryz.t234) (.node (some Tryz.t362) (.node (some Tryz.t618) .leaf .leaf) .leaf)
  (.node (some Tryz.t490) (.node (some Tryz.t746) .leaf .leaf) .leaf)))) (.node (some Tryz.t58) (.node (some Tryz.t90) (.node (some Tryz.t154) (.node (some
  Tryz.t282) (.node (some Tryz.t538) .leaf .leaf) .leaf) (.node (some Tryz.t410) (.node (some Tryz.t666) .leaf .leaf) .leaf)) (.node (some Tryz.t218) (.node
  (some Tryz.t346) (.node (some Tryz.t602) .leaf .leaf) .leaf) (.node (some Tryz.t474) (.node (some Tryz.t730) .leaf .leaf) .leaf))) (.node (some Tryz.t122)
  (.node (some Tryz.t186) (.node (some Tryz.t314) (.node (some Tryz.t570) .leaf .leaf) .leaf) (.node (some Tryz.t442) (.node (some Tryz.t698) .leaf .leaf)
  .leaf)) (.node (some Tryz.t250) (.node (some Tryz.t378) (.node (some Tryz.t634) .leaf .leaf) .leaf) (.node (some Tryz.t506) (.node (some Tryz.t762) .leaf
  .leaf) .leaf)))))) (.node (some Tryz.t14) (.node (some Tryz.t22) (.node (some Tryz.t38) (.node (some Tryz.t70) (.node (some Tryz.t134) (.node (some Tryz.t262)
  (.node (some Tryz.t518) .leaf .leaf) (.node (some Tryz.t774) .leaf .leaf)) (.node (some Tryz.t390) (.node (some Tryz.t646) .leaf .leaf) .leaf)) (.node (some
  Tryz.t198) (.node (some Tryz.t326) (.node (some Tryz.t582) .leaf .leaf) .leaf) (.node (some Tryz.t454) (.node (some Tryz.t710) .leaf .leaf) .leaf))) (.node
  (some Tryz.t102) (.node (some Tryz.t166) (.node (some Tryz.t294) (.node (some Tryz.t550) .leaf .leaf) .leaf) (.node (some Tryz.t422) (.node (some Tryz.t678)
  .leaf .leaf) .leaf)) (.node (some Tryz.t230) (.node (some Tryz.t358) (.node (some Tryz.t614) .leaf .leaf) .leaf) (.node (some Tryz.t486) (.node (some
  Tryz.t742) .leaf .leaf) .leaf)))) (.node (some Tryz.t54) (.node (some Tryz.t86) (.node (some Tryz.t150) (.node (some Tryz.t278) (.node (some Tryz.t534) .leaf
  .leaf) .leaf) (.node (some Tryz.t406) (.node (some Tryz.t662) .leaf .leaf) .leaf)) (.node (some Tryz.t214) (.node (some Tryz.t342) (.node (some Tryz.t598)
  .leaf .leaf) .leaf) (.node (some Tryz.t470) (.node (some Tryz.t726) .leaf .leaf) .leaf))) (.node (some Tryz.t118) (.node (some Tryz.t182) (.node (some
  Tryz.t310) (.node (some Tryz.t566) .leaf .leaf) .leaf) (.node (some Tryz.t438) (.node (some Tryz.t694) .leaf .leaf) .leaf)) (.node (some Tryz.t246) (.node
  (some Tryz.t374) (.node (some Tryz.t630) .leaf .leaf) .leaf) (.node (some Tryz.t502) (.node (some Tryz.t758) .leaf .leaf) .leaf))))) (.node (some Tryz.t30)
  (.node (some Tryz.t46) (.node (some Tryz.t78) (.node (some Tryz.t142) (.node (some Tryz.t270) (.node (some Tryz.t526) .leaf .leaf) (.node (some Tryz.t782)
  .leaf .leaf)) (.node (some Tryz.t398) (.node (some Tryz.t654) .leaf .leaf) .leaf)) (.node (some Tryz.t206) (.node (some Tryz.t334) (.node (some Tryz.t590)
  .leaf .leaf) .leaf) (.node (some Tryz.t462) (.node (some Tryz.t718) .leaf .leaf) .leaf))) (.node (some Tryz.t110) (.node (some Tryz.t174) (.node (some
  Tryz.t302) (.node (some Tryz.t558) .leaf .leaf) .leaf) (.node (some Tryz.t430) (.node (some Tryz.t686) .leaf .leaf) .leaf)) (.node (some Tryz.t238) (.node
  (some Tryz.t366) (.node (some Tryz.t622) .leaf .leaf) .leaf) (.node (some Tryz.t494) (.node (some Tryz.t750) .leaf .leaf) .leaf)))) (.node (some Tryz.t62)
  (.node (some Tryz.t94) (.node (some Tryz.t158) (.node (some Tryz.t286) (.node (some Tryz.t542) .leaf .leaf) .leaf) (.node (some Tryz.t414) (.node (some
  Tryz.t670) .leaf .leaf) .leaf)) (.node (some Tryz.t222) (.node (some Tryz.t350) (.node (some Tryz.t606) .leaf .leaf) .leaf) (.node (some Tryz.t478) (.node
  (some Tryz.t734) .leaf .leaf) .leaf))) (.node (some Tryz.t126) (.node (some Tryz.t190) (.node (some Tryz.t318) (.node (some Tryz.t574) .leaf .leaf) .leaf)
  (.node (some Tryz.t446) (.node (some Tryz.t702) .leaf .leaf) .leaf)) (.node (some Tryz.t254) (.node (some Tryz.t382) (.node (some Tryz.t638) .leaf .leaf)
  .leaf) (.node (some Tryz.t510) (.node (some Tryz.t766) .leaf .leaf) .leaf)))))))))
noncomputable def undT : T TypeDesc :=
  (.node (some Tryz.t0.desc) (.node (some Tryz.t1.desc) (.node (some Tryz.t3.desc) (.node (some Tryz.t7.desc) (.node (some Tryz.t15.desc) (.node (some
  Tryz.t31.desc) (.node (some Tryz.t63.desc) (.node (some Tryz.t126.desc) (.node (some Tryz.t255.desc) (.node (some Tryz.t510.desc) .leaf .leaf) (.node (some
  Tryz.t767.desc) .leaf .leaf)) (.node (some Tryz.t382.desc) (.node (some Tryz.t639.desc) .leaf .leaf) .leaf)) (.node (some Tryz.t191.desc) (.node (some
  Tryz.t319.desc) (.node (some Tryz.t574.desc) .leaf .leaf) .leaf) (.node (some Tryz.t447.desc) (.node (some Tryz.t703.desc) .leaf .leaf) .leaf))) (.node (some
  Tryz.t95.desc) (.node (some Tryz.t159.desc) (.node (some Tryz.t287.desc) (.node (some Tryz.t543.desc) .leaf .leaf) .leaf) (.node (some Tryz.t415.desc) (.node
  (some Tryz.t671.desc) .leaf .leaf) .leaf)) (.node (some Tryz.t223.desc) (.node (some Tryz.t351.desc) (.node (some Tryz.t607.desc) .leaf .leaf) .leaf) (.node
  (some Tryz.t478.desc) (.node (some Tryz.t735.desc) .leaf .leaf) .leaf)))) (.node (some Tryz.t47.desc) (.node (some Tryz.t79.desc) (.node (some Tryz.t143.desc)
  (.node (some Tryz.t271.desc) (.node (some Tryz.t527.desc) .leaf .leaf) (.node (some Tryz.t21.desc) .leaf .leaf)) (.node (some Tryz.t399.desc) (.node (some
  Tryz.t655.desc) .leaf .leaf) .leaf)) (.node (some Tryz.t207.desc) (.node (some Tryz.t335.desc) (.node (some Tryz.t591.desc) .leaf .leaf) .leaf) (.node (some
  Tryz.t463.desc) (.node (some Tryz.t719.desc) .leaf .leaf) .leaf))) (.node (some Tryz.t111.desc) (.node (some Tryz.t175.desc) (.node (some Tryz.t303.desc)
  (.node (some Tryz.t369.desc) .leaf .leaf) .leaf) (.node (some Tryz.t431.desc) (.node (some Tryz.t687.desc) .leaf .leaf) .leaf)) (.node (some Tryz.t239.desc)
  (.node (some Tryz.t367.desc) (.node (some Tryz.t623.desc) .leaf .leaf) .leaf) (.node (some Tryz.t495.desc) (.node (some Tryz.t751.desc) .leaf .leaf)
  .leaf))))) (.node (some Tryz.t23.desc) (.node (some Tryz.t38.desc) (.node (some Tryz.t70.desc) (.node (some Tryz.t135.desc) (.node (some Tryz.t262.desc)
  (.node (some Tryz.t518.desc) .leaf .leaf) (.node (some Tryz.t775.desc) .leaf .leaf)) (.node (some Tryz.t391.desc) (.node (some Tryz.t647.desc) .leaf .leaf)
  .leaf)) (.node (some Tryz.t199.desc) (.node (some Tryz.t327.desc) (.node (some Tryz.t583.desc) .leaf .leaf) .leaf) (.node (some Tryz.t455.desc) (.node (some
  Tryz.t711.desc) .leaf .leaf) .leaf))) (.node (some Tryz.t103.desc) (.node (some Tryz.t167.desc) (.node (some Tryz.t295.desc) (.node (some Tryz.t550.desc)
  .leaf .leaf) .leaf) (.node (some Tryz.t422.desc) (.node (some Tryz.t679.desc) .leaf .leaf) .leaf)) (.node (some Tryz.t231.desc) (.node (some Tryz.t359.desc)
  (.node (some Tryz.t615.desc) .leaf .leaf) .leaf) (.node (some Tryz.t487.desc) (.node (some Tryz.t743.desc) .leaf .leaf) .leaf)))) (.node (some Tryz.t55.desc)
  (.node (some Tryz.t87.desc) (.node (some Tryz.t151.desc) (.node (some Tryz.t279.desc) (.node (some Tryz.t535.desc) .leaf .leaf) .leaf) (.node (some
  Tryz.t407.desc) (.node (some Tryz.t663.desc) .leaf .leaf) .leaf)) (.node (some Tryz.t215.desc) (.node (some Tryz.t343.desc) (.node (some Tryz.t599.desc) .leaf
  .leaf) .leaf) (.node (some Tryz.t471.desc) (.node (some Tryz.t727.desc) .leaf .leaf) .leaf))) (.node (some Tryz.t119.desc) (.node (some Tryz.t183.desc) (.node
  (some Tryz.t311.desc) (.node (some Tryz.t567.desc) .leaf .leaf) .leaf) (.node (some Tryz.t439.desc) (.node (some Tryz.t695.desc) .leaf .leaf) .leaf)) (.node
  (some Tryz.t247.desc) (.node (some Tryz.t375.desc) (.node (some Tryz.t631.desc) .leaf .leaf) .leaf) (.node (some Tryz.t503.desc) (.node (some Tryz.t759.desc)
  .leaf .leaf) .leaf)))))) (.node (some Tryz.t9.desc) (.node (some Tryz.t18.desc) (.node (some Tryz.t35.desc) (.node (some Tryz.t67.desc) (.node (some
  Tryz.t130.desc) (.node (some Tryz.t259.desc) (.node (some Tryz.t515.desc) .leaf .leaf) (.node (some Tryz.t771.desc) .leaf .leaf)) (.node (some Tryz.t387.desc)
  (.node (some Tryz.t643.desc) .leaf .leaf) .leaf)) (.node (some Tryz.t195.desc) (.node (some Tryz.t323.desc) (.node (some Tryz.t579.desc) .leaf .leaf) .leaf)
  (.node (some Tryz.t450.desc) (.node (some Tryz.t707.desc) .leaf .leaf) .leaf))) (.node (some Tryz.t99.desc) (.node (some Tryz.t45.desc) (.node (some
  Tryz.t291.desc) (.node (some Tryz.t547.desc) .leaf .leaf) .leaf) (.node (some Tryz.t419.desc) (.node (some Tryz.t675.desc) .leaf .leaf) .leaf)) (.node (some
  Tryz.t227.desc) (.node (some Tryz.t355.desc) (.node (some Tryz.t611.desc) .leaf .leaf) .leaf) (.node (some Tryz.t482.desc) (.node (some Tryz.t739.desc) .leaf
  .leaf) .leaf)))) (.node (some Tryz.t51.desc) (.node (some Tryz.t83.desc) (.node (some Tryz.t147.desc) (.node (some Tryz.t275.desc) (.node (some
  Tryz.t531.desc) .leaf .leaf) (.node (some Tryz.t787.desc) .leaf .leaf)) (.node (some Tryz.t403.desc) (.node (some Tryz.t659.desc) .leaf .leaf) .leaf)) (.node
  (some Tryz.t211.desc) (.node (some Tryz.t339.desc) (.node (some Tryz.t594.desc) .leaf .leaf) .leaf) (.node (some Tryz.t467.desc) (.node (some Tryz.t723.desc)
  .leaf .leaf) .leaf))) (.node (some Tryz.t114.desc) (.node (some Tryz.t179.desc) (.node (some Tryz.t307.desc) (.node (some Tryz.t563.desc) .leaf .leaf) .leaf)
  (.node (some Tryz.t435.desc) (.node (some Tryz.t691.desc) .leaf .leaf) .leaf)) (.node (some Tryz.t243.desc) (.node (some Tryz.t371.desc) (.node (some
  Tryz.t626.desc) .leaf .leaf) .leaf) (.node (some Tryz.t499.desc) (.node (some Tryz.t754.desc) .leaf .leaf) .leaf))))) (.node (some Tryz.t27.desc) (.node (some
  Tryz.t43.desc) (.node (some Tryz.t75.desc) (.node (some Tryz.t139.desc) (.node (some Tryz.t267.desc) (.node (some Tryz.t522.desc) .leaf .leaf) (.node (some
  Tryz.t5.desc) .leaf .leaf)) (.node (some Tryz.t395.desc) (.node (some Tryz.t651.desc) .leaf .leaf) .leaf)) (.node (some Tryz.t203.desc) (.node (some
  Tryz.t331.desc) (.node (some Tryz.t587.desc) .leaf .leaf) .leaf) (.node (some Tryz.t459.desc) (.node (some Tryz.t715.desc) .leaf .leaf) .leaf))) (.node (some
  Tryz.t107.desc) (.node (some Tryz.t171.desc) (.node (some Tryz.t299.desc) (.node (some Tryz.t555.desc) .leaf .leaf) .leaf) (.node (some Tryz.t427.desc) (.node
  (some Tryz.t683.desc) .leaf .leaf) .leaf)) (.node (some Tryz.t235.desc) (.node (some Tryz.t363.desc) (.node (some Tryz.t618.desc) .leaf .leaf) .leaf) (.node
  (some Tryz.t491.desc) (.node (some Tryz.t747.desc) .leaf .leaf) .leaf)))) (.node (some Tryz.t59.desc) (.node (some Tryz.t91.desc) (.node (some Tryz.t155.desc)
  (.node (some Tryz.t282.desc) (.node (some Tryz.t539.desc) .leaf .leaf) .leaf) (.node (some Tryz.t411.desc) (.node (some Tryz.t667.desc) .leaf .leaf) .leaf))
  (.node (some Tryz.t219.desc) (.node (some Tryz.t347.desc) (.node (some Tryz.t603.desc) .leaf .leaf) .leaf) (.node (some Tryz.t475.desc) (.node (some
  Tryz.t731.desc) .leaf .leaf) .leaf))) (.node (some Tryz.t123.desc) (.node (some Tryz.t187.desc) (.node (some Tryz.t315.desc) (.node (some Tryz.t571.desc)
  .leaf .leaf) .leaf) (.node (some Tryz.t443.desc) (.node (some Tryz.t698.desc) .leaf .leaf) .leaf)) (.node (some Tryz.t251.desc) (.node (some Tryz.t379.desc)
  (.node (some Tryz.t635.desc) .leaf .leaf) .leaf) (.node (some Tryz.t507.desc) (.node (some Tryz.t763.desc) .leaf .leaf) .leaf))))))) (.node (some
  Tryz.t5.desc) (.node (some Tryz.t9.desc) (.node (some Tryz.t17.desc) (.node (some Tryz.t33.desc) (.node (some Tryz.t65.desc) (.node (some Tryz.t129.desc)
  (.node (some Tryz.t257.desc) (.node (some Tryz.t513.desc) .leaf .leaf) (.node (some Tryz.t769.desc) .leaf .leaf)) (.node (some Tryz.t385.desc) (.node (some
  Tryz.t641.desc) .leaf .leaf) .leaf)) (.node (some Tryz.t192.desc) (.node (some Tryz.t3.desc) (.node (some Tryz.t577.desc) .leaf .leaf) .leaf) (.node (some
  Tryz.t45.desc) (.node (some Tryz.t705.desc) .leaf .leaf) .leaf))) (.node (some Tryz.t97.desc) (.node (some Tryz.t161.desc) (.node (some Tryz.t289.desc) (.node
  (some Tryz.t545.desc) .leaf .leaf) .leaf) (.node (some Tryz.t417.desc) (.node (some Tryz.t672.desc) .leaf .leaf) .leaf)) (.node (some Tryz.t225.desc) (.node
  (some Tryz.t352.desc) (.node (some Tryz.t609.desc) .leaf .leaf) .leaf) (.node (some Tryz.t481.desc) (.node (some Tryz.t737.desc) .leaf .leaf) .leaf)))) (.node
  (some Tryz.t49.desc) (.node (some Tryz.t81.desc) (.node (some Tryz.t145.desc) (.node (some Tryz.t273.desc) (.node (some Tryz.t529.desc) .leaf .leaf) (.node
  (some Tryz.t784.desc) .leaf .leaf)) (.node (some Tryz.t401.desc) (.node (some Tryz.t657.desc) .leaf .leaf) .leaf)) (.node (some Tryz.t209.desc) (.node (some
  Tryz.t337.desc) (.node (some Tryz.t593.desc) .leaf .leaf) .leaf) (.node (some Tryz.t465.desc) (.node (some Tryz.t721.desc) .leaf .leaf) .leaf))) (.node (some
  Tryz.t112.desc) (.node (some Tryz.t177.desc) (.node (some Tryz.t305.desc) (.node (some Tryz.t561.desc) .leaf .leaf) .leaf) (.node (some Tryz.t433.desc) (.node
  (some Tryz.t689.desc) .leaf .leaf) .leaf)) (.node (some Tryz.t241.desc) (.node (some Tryz.t369.desc) (.node (some Tryz.t624.desc) .leaf .leaf) .leaf) (.node
  (some Tryz.t497.desc) (.node (some Tryz.t752.desc) .leaf .leaf) .leaf))))) (.node (some Tryz.t3.desc) (.node (some Tryz.t41.desc) (.node (some Tryz.t72.desc)
  (.node (some Tryz.t137.desc) (.node (some Tryz.t265.desc) (.node (some Tryz.t520.desc) .leaf .leaf) (.node (some Tryz.t776.desc) .leaf .leaf)) (.node (some
  Tryz.t393.desc) (.node (some Tryz.t649.desc) .leaf .leaf) .leaf)) (.node (some Tryz.t201.desc) (.node (some Tryz.t329.desc) (.node (some Tryz.t585.desc) .leaf
  .leaf) .leaf) (.node (some Tryz.t457.desc) (.node (some Tryz.t712.desc) .leaf .leaf) .leaf))) (.node (some Tryz.t105.desc) (.node (some Tryz.t169.desc) (.node
  (some Tryz.t297.desc) (.node (some Tryz.t553.desc) .leaf .leaf) .leaf) (.node (some Tryz.t425.desc) (.node (some Tryz.t681.desc) .leaf .leaf) .leaf)) (.node
  (some Tryz.t233.desc) (.node (some Tryz.t361.desc) (.node (some Tryz.t616.desc) .leaf .leaf) .leaf) (.node (some Tryz.t488.desc) (.node (some Tryz.t745.desc)
  .leaf .leaf) .leaf)))) (.node (some Tryz.t57.desc) (.node (some Tryz.t89.desc) (.node (some Tryz.t153.desc) (.node (some Tryz.t281.desc) (.node (some
  Tryz.t536.desc) .leaf .leaf) .leaf) (.node (some Tryz.t409.desc) (.node (some Tryz.t665.desc) .leaf .leaf) .leaf)) (.node (some Tryz.t217.desc) (.node (some
  Tryz.t345.desc) (.node (some Tryz.t601.desc) .leaf .leaf) .leaf) (.node (some Tryz.t473.desc) (.node (some Tryz.t729.desc) .leaf .leaf) .leaf))) (.node (some
  Tryz.t121.desc) (.node (some Tryz.t185.desc) (.node (some Tryz.t313.desc) (.node (some Tryz.t569.desc) .leaf .leaf) .leaf) (.node (some Tryz.t441.desc) (.node
  (some Tryz.t693.desc) .leaf .leaf) .leaf)) (.node (some Tryz.t249.desc) (.node (some Tryz.t376.desc) (.node (some Tryz.t633.desc) .leaf .leaf) .leaf) (.node
  (some Tryz.t505.desc) (.node (some Tryz.t761.desc) .leaf .leaf) .leaf)))))) (.node (some Tryz.t13.desc) (.node (some Tryz.t21.desc) (.node (some Tryz.t3.desc)
  (.node (some Tryz.t69.desc) (.node (some Tryz.t133.desc) (.node (some Tryz.t261.desc) (.node (some Tryz.t517.desc) .leaf .leaf) (.node (some Tryz.t773.desc)
  .leaf .leaf)) (.node (some Tryz.t389.desc) (.node (some Tryz.t645.desc) .leaf .leaf) .leaf)) (.node (some Tryz.t197.desc) (.node (some Tryz.t324.desc) (.node
  (some Tryz.t580.desc) .leaf .leaf) .leaf) (.node (some Tryz.t453.desc) (.node (some Tryz.t709.desc) .leaf .leaf) .leaf))) (.node (some Tryz.t101.desc) (.node
  (some Tryz.t164.desc) (.node (some Tryz.t293.desc) (.node (some Tryz.t549.desc) .leaf .leaf) .leaf) (.node (some Tryz.t421.desc) (.node (some Tryz.t677.desc)
  .leaf .leaf) .leaf)) (.node (some Tryz.t229.desc) (.node (some Tryz.t357.desc) (.node (some Tryz.t613.desc) .leaf .leaf) .leaf) (.node (some Tryz.t485.desc)
  (.node (some Tryz.t741.desc) .leaf .leaf) .leaf)))) (.node (some Tryz.t53.desc) (.node (some Tryz.t85.desc) (.node (some Tryz.t149.desc) (.node (some
  Tryz.t277.desc) (.node (some Tryz.t533.desc) .leaf .leaf) .leaf) (.node (some Tryz.t405.desc) (.node (some Tryz.t661.desc) .leaf .leaf) .leaf)) (.node (some
  Tryz.t213.desc) (.node (some Tryz.t341.desc) (.node (some Tryz.t597.desc) .leaf .leaf) .leaf) (.node (some Tryz.t469.desc) (.node (some Tryz.t725.desc) .leaf
  .leaf) .leaf))) (.node (some Tryz.t117.desc) (.node (some Tryz.t181.desc) (.node (some Tryz.t309.desc) (.node (some Tryz.t564.desc) .leaf .leaf) .leaf) (.node
  (some Tryz.t437.desc) (.node (some Tryz.t693.desc) .leaf .leaf) .leaf)) (.node (some Tryz.t245.desc) (.node (some Tryz.t373.desc) (.node (some Tryz.t391.desc)
  .leaf .leaf) .leaf) (.node (some Tryz.t501.desc) (.node (some Tryz.t757.desc) .leaf .leaf) .leaf))))) (.node (some Tryz.t29.desc) (.node (some Tryz.t45.desc)
  (.node (some Tryz.t77.desc) (.node (some Tryz.t141.desc) (.node (some Tryz.t269.desc) (.node (some Tryz.t525.desc) .leaf .leaf) (.node (some Tryz.t781.desc)
  .leaf .leaf)) (.node (some Tryz.t396.desc) (.node (some Tryz.t653.desc) .leaf .leaf) .leaf)) (.node (some Tryz.t205.desc) (.node (some Tryz.t333.desc) (.node
  (some Tryz.t589.desc) .leaf .leaf) .leaf) (.node (some Tryz.t461.desc) (.node (some Tryz.t717.desc) .leaf .leaf) .leaf))) (.node (some Tryz.t109.desc) (.node
  (some Tryz.t173.desc) (.node (some Tryz.t301.desc) (.node (some Tryz.t557.desc) .leaf .leaf) .leaf) (.node (some Tryz.t429.desc) (.node (some Tryz.t685.desc)
  .leaf .leaf) .leaf)) (.node (some Tryz.t237.desc) (.node (some Tryz.t364.desc) (.node (some Tryz.t621.desc) .leaf .leaf) .leaf) (.node (some Tryz.t493.desc)
  (.node (some Tryz.t749.desc) .leaf .leaf) .leaf)))) (.node (some Tryz.t61.desc) (.node (some Tryz.t93.desc) (.node (some Tryz.t157.desc) (.node (some
  Tryz.t284.desc) (.node (some Tryz.t541.desc) .leaf .leaf) .leaf) (.node (some Tryz.t413.desc) (.node (some Tryz.t669.desc) .leaf .leaf) .leaf)) (.node (some
  Tryz.t221.desc) (.node (some Tryz.t349.desc) (.node (some Tryz.t605.desc) .leaf .leaf) .leaf) (.node (some Tryz.t477.desc) (.node (some Tryz.t733.desc) .leaf
  .leaf) .leaf))) (.node (some Tryz.t125.desc) (.node (some Tryz.t189.desc) (.node (some Tryz.t317.desc) (.node (some Tryz.t573.desc) .leaf .leaf) .leaf) (.node
  (some Tryz.t188.desc) (.node (some Tryz.t700.desc) .leaf .leaf) .leaf)) (.node (some Tryz.t252.desc) (.node (some Tryz.t381.desc) (.node (some Tryz.t637.desc)
  .leaf .leaf) .leaf) (.node (some Tryz.t509.desc) (.node (some Tryz.t765.desc) .leaf .leaf) .leaf)))))))) (.node (some Tryz.t2.desc) (.node (some Tryz.t4.desc)
  (.node (some Tryz.t7.desc) (.node (some Tryz.t16.desc) (.node (some Tryz.t32.desc) (.node (some Tryz.t64.desc) (.node (some Tryz.t128.desc) (.node (some
  Tryz.t256.desc) (.node (some Tryz.t512.desc) .leaf .leaf) (.node (some Tryz.t768.desc) .leaf .leaf)) (.node (some Tryz.t384.desc) (.node (some Tryz.t640.desc)
  .leaf .leaf) .leaf)) (.node (some Tryz.t192.desc) (.node (some Tryz.t320.desc) (.node (some Tryz.t576.desc) .leaf .leaf) .leaf) (.node (some Tryz.t448.desc)
  (.node (some Tryz.t704.desc) .leaf .leaf) .leaf))) (.node (some Tryz.t96.desc) (.node (some Tryz.t160.desc) (.node (some Tryz.t287.desc) (.node (some
  Tryz.t3.desc) .leaf .leaf) .leaf) (.node (some Tryz.t416.desc) (.node (some Tryz.t672.desc) .leaf .leaf) .leaf)) (.node (some Tryz.t224.desc) (.node (some
  Tryz.t352.desc) (.node (some Tryz.t608.desc) .leaf .leaf) .leaf) (.node (some Tryz.t480.desc) (.node (some Tryz.t735.desc) .leaf .leaf) .leaf)))) (.node (some
  Tryz.t48.desc) (.node (some Tryz.t80.desc) (.node (some Tryz.t144.desc) (.node (some Tryz.t272.desc) (.node (some Tryz.t528.desc) .leaf .leaf) (.node (some
  Tryz.t784.desc) .leaf .leaf)) (.node (some Tryz.t400.desc) (.node (some Tryz.t656.desc) .leaf .leaf) .leaf)) (.node (some Tryz.t208.desc) (.node (some
  Tryz.t336.desc) (.node (some Tryz.t592.desc) .leaf .leaf) .leaf) (.node (some Tryz.t464.desc) (.node (some Tryz.t719.desc) .leaf .leaf) .leaf))) (.node (some
  Tryz.t112.desc) (.node (some Tryz.t176.desc) (.node (some Tryz.t303.desc) (.node (some Tryz.t560.desc) .leaf .leaf) .leaf) (.node (some Tryz.t432.desc) (.node
  (some Tryz.t688.desc) .leaf .leaf) .leaf)) (.node (some Tryz.t240.desc) (.node (some Tryz.t368.desc) (.node (some Tryz.t624.desc) .leaf .leaf) .leaf) (.node
  (some Tryz.t496.desc) (.node (some Tryz.t752.desc) .leaf .leaf) .leaf))))) (.node (some Tryz.t24.desc) (.node (some Tryz.t40.desc) (.node (some Tryz.t72.desc)
  (.node (some Tryz.t135.desc) (.node (some Tryz.t3.desc) (.node (some Tryz.t520.desc) .leaf .leaf) (.node (some Tryz.t776.desc) .leaf .leaf)) (.node (some
  Tryz.t391.desc) (.node (some Tryz.t648.desc) .leaf .leaf) .leaf)) (.node (some Tryz.t200.desc) (.node (some Tryz.t328.desc) (.node (some Tryz.t584.desc) .leaf
  .leaf) .leaf) (.node (some Tryz.t456.desc) (.node (some Tryz.t712.desc) .leaf .leaf) .leaf))) (.node (some Tryz.t104.desc) (.node (some Tryz.t168.desc) (.node
  (some Tryz.t296.desc) (.node (some Tryz.t552.desc) .leaf .leaf) .leaf) (.node (some Tryz.t424.desc) (.node (some Tryz.t679.desc) .leaf .leaf) .leaf)) (.node
  (some Tryz.t232.desc) (.node (some Tryz.t360.desc) (.node (some Tryz.t616.desc) .leaf .leaf) .leaf) (.node (some Tryz.t488.desc) (.node (some Tryz.t744.desc)
  .leaf .leaf) .leaf)))) (.node (some Tryz.t56.desc) (.node (some Tryz.t88.desc) (.node (some Tryz.t152.desc) (.node (some Tryz.t280.desc) (.node (some
  Tryz.t536.desc) .leaf .leaf) .leaf) (.node (some Tryz.t408.desc) (.node (some Tryz.t664.desc) .leaf .leaf) .leaf)) (.node (some Tryz.t3.desc) (.node (some
  Tryz.t344.desc) (.node (some Tryz.t600.desc) .leaf .leaf) .leaf) (.node (some Tryz.t472.desc) (.node (some Tryz.t728.desc) .leaf .leaf) .leaf))) (.node (some
  Tryz.t120.desc) (.node (some Tryz.t184.desc) (.node (some Tryz.t312.desc) (.node (some Tryz.t568.desc) .leaf .leaf) .leaf) (.node (some Tryz.t440.desc) (.node
  (some Tryz.t696.desc) .leaf .leaf) .leaf)) (.node (some Tryz.t22.desc) (.node (some Tryz.t376.desc) (.node (some Tryz.t632.desc) .leaf .leaf) .leaf) (.node
  (some Tryz.t504.desc) (.node (some Tryz.t3.desc) .leaf .leaf) .leaf)))))) (.node (some Tryz.t12.desc) (.node (some Tryz.t20.desc) (.node (some Tryz.t36.desc)
  (.node (some Tryz.t67.desc) (.node (some Tryz.t132.desc) (.node (some Tryz.t260.desc) (.node (some Tryz.t516.desc) .leaf .leaf) (.node (some Tryz.t772.desc)
  .leaf .leaf)) (.node (some Tryz.t388.desc) (.node (some Tryz.t45.desc) .leaf .leaf) .leaf)) (.node (some Tryz.t196.desc) (.node (some Tryz.t324.desc) (.node
  (some Tryz.t580.desc) .leaf .leaf) .leaf) (.node (some Tryz.t452.desc) (.node (some Tryz.t708.desc) .leaf .leaf) .leaf))) (.node (some Tryz.t100.desc) (.node
  (some Tryz.t164.desc) (.node (some Tryz.t292.desc) (.node (some Tryz.t548.desc) .leaf .leaf) .leaf) (.node (some Tryz.t420.desc) (.node (some Tryz.t676.desc)
  .leaf .leaf) .leaf)) (.node (some Tryz.t69.desc) (.node (some Tryz.t356.desc) (.node (some Tryz.t611.desc) .leaf .leaf) .leaf) (.node (some Tryz.t484.desc)
  (.node (some Tryz.t740.desc) .leaf .leaf) .leaf)))) (.node (some Tryz.t52.desc) (.node (some Tryz.t83.desc) (.node (some Tryz.t148.desc) (.node (some
  Tryz.t276.desc) (.node (some Tryz.t532.desc) .leaf .leaf) .leaf) (.node (some Tryz.t404.desc) (.node (some Tryz.t659.desc) .leaf .leaf) .leaf)) (.node (some
  Tryz.t211.desc) (.node (some Tryz.t340.desc) (.node (some Tryz.t596.desc) .leaf .leaf) .leaf) (.node (some Tryz.t468.desc) (.node (some Tryz.t723.desc) .leaf
  .leaf) .leaf))) (.node (some Tryz.t116.desc) (.node (some Tryz.t180.desc) (.node (some Tryz.t308.desc) (.node (some Tryz.t564.desc) .leaf .leaf) .leaf) (.node
  (some Tryz.t436.desc) (.node (some Tryz.t692.desc) .leaf .leaf) .leaf)) (.node (some Tryz.t244.desc) (.node (some Tryz.t372.desc) (.node (some Tryz.t628.desc)
  .leaf .leaf) .leaf) (.node (some Tryz.t500.desc) (.node (some Tryz.t756.desc) .leaf .leaf) .leaf))))) (.node (some Tryz.t28.desc) (.node (some Tryz.t44.desc)
  (.node (some Tryz.t75.desc) (.node (some Tryz.t139.desc) (.node (some Tryz.t268.desc) (.node (some Tryz.t524.desc) .leaf .leaf) (.node (some Tryz.t780.desc)
  .leaf .leaf)) (.node (some Tryz.t396.desc) (.node (some Tryz.t652.desc) .leaf .leaf) .leaf)) (.node (some Tryz.t204.desc) (.node (some Tryz.t332.desc) (.node
  (some Tryz.t588.desc) .leaf .leaf) .leaf) (.node (some Tryz.t460.desc) (.node (some Tryz.t716.desc) .leaf .leaf) .leaf))) (.node (some Tryz.t108.desc) (.node
  (some Tryz.t172.desc) (.node (some Tryz.t300.desc) (.node (some Tryz.t556.desc) .leaf .leaf) .leaf) (.node (some Tryz.t428.desc) (.node (some Tryz.t684.desc)
  .leaf .leaf) .leaf)) (.node (some Tryz.t236.desc) (.node (some Tryz.t364.desc) (.node (some Tryz.t620.desc) .leaf .leaf) .leaf) (.node (some Tryz.t492.desc)
  (.node (some Tryz.t748.desc) .leaf .leaf) .leaf)))) (.node (some Tryz.t60.desc) (.node (some Tryz.t92.desc) (.node (some Tryz.t156.desc) (.node (some
  Tryz.t284.desc) (.node (some Tryz.t540.desc) .leaf .leaf) .leaf) (.node (some Tryz.t412.desc) (.node (some Tryz.t668.desc) .leaf .leaf) .leaf)) (.node (some
  Tryz.t220.desc) (.node (some Tryz.t348.desc) (.node (some Tryz.t604.desc) .leaf .leaf) .leaf) (.node (some Tryz.t476.desc) (.node (some Tryz.t732.desc) .leaf
  .leaf) .leaf))) (.node (some Tryz.t124.desc) (.node (some Tryz.t188.desc) (.node (some Tryz.t316.desc) (.node (some Tryz.t572.desc) .leaf .leaf) .leaf) (.node
  (some Tryz.t443.desc) (.node (some Tryz.t700.desc) .leaf .leaf) .leaf)) (.node (some Tryz.t252.desc) (.node (some Tryz.t380.desc) (.node (some Tryz.t636.desc)
  .leaf .leaf) .leaf) (.node (some Tryz.t508.desc) (.node (some Tryz.t764.desc) .leaf .leaf) .leaf))))))) (.node (some Tryz.t5.desc) (.node (some Tryz.t9.desc)
  (.node (some Tryz.t18.desc) (.node (some Tryz.t34.desc) (.node (some Tryz.t66.desc) (.node (some Tryz.t130.desc) (.node (some Tryz.t258.desc) (.node (some
  Tryz.t514.desc) .leaf .leaf) (.node (some Tryz.t770.desc) .leaf .leaf)) (.node (some Tryz.t386.desc) (.node (some Tryz.t642.desc) .leaf .leaf) .leaf)) (.node
  (some Tryz.t194.desc) (.node (some Tryz.t3.desc) (.node (some Tryz.t578.desc) .leaf .leaf) .leaf) (.node (some Tryz.t450.desc) (.node (some Tryz.t706.desc)
  .leaf .leaf) .leaf))) (.node (some Tryz.t98.desc) (.node (some Tryz.t162.desc) (.node (some Tryz.t290.desc) (.node (some Tryz.t546.desc) .leaf .leaf) .leaf)
  (.node (some Tryz.t418.desc) (.node (some Tryz.t674.desc) .leaf .leaf) .leaf)) (.node (some Tryz.t226.desc) (.node (some Tryz.t354.desc) (.node (some
  Tryz.t610.desc) .leaf .leaf) .leaf) (.node (some Tryz.t482.desc) (.node (some Tryz.t738.desc) .leaf .leaf) .leaf)))) (.node (some Tryz.t50.desc) (.node (some
  Tryz.t82.desc) (.node (some Tryz.t146.desc) (.node (some Tryz.t274.desc) (.node (some Tryz.t530.desc) .leaf .leaf) (.node (some Tryz.t786.desc) .leaf .leaf))
  (.node (some Tryz.t402.desc) (.node (some Tryz.t658.desc) .leaf .leaf) .leaf)) (.node (some Tryz.t209.desc) (.node (some Tryz.t337.desc) (.node (some
  Tryz.t594.desc) .leaf .leaf) .leaf) (.node (some Tryz.t465.desc) (.node (some Tryz.t722.desc) .leaf .leaf) .leaf))) (.node (some Tryz.t114.desc) (.node (some
  Tryz.t178.desc) (.node (some Tryz.t306.desc) (.node (some Tryz.t562.desc) .leaf .leaf) .leaf) (.node (some Tryz.t434.desc) (.node (some Tryz.t690.desc) .leaf
  .leaf) .leaf)) (.node (some Tryz.t242.desc) (.node (some Tryz.t369.desc) (.node (some Tryz.t626.desc) .leaf .leaf) .leaf) (.node (some Tryz.t498.desc) (.node
  (some Tryz.t754.desc) .leaf .leaf) .leaf))))) (.node (some Tryz.t26.desc) (.node (some Tryz.t42.desc) (.node (some Tryz.t74.desc) (.node (some Tryz.t138.desc)
  (.node (some Tryz.t265.desc) (.node (some Tryz.t522.desc) .leaf .leaf) (.node (some Tryz.t5.desc) .leaf .leaf)) (.node (some Tryz.t394.desc) (.node (some
  Tryz.t650.desc) .leaf .leaf) .leaf)) (.node (some Tryz.t202.desc) (.node (some Tryz.t330.desc) (.node (some Tryz.t586.desc) .leaf .leaf) .leaf) (.node (some
  Tryz.t458.desc) (.node (some Tryz.t714.desc) .leaf .leaf) .leaf))) (.node (some Tryz.t105.desc) (.node (some Tryz.t170.desc) (.node (some Tryz.t298.desc)
  (.node (some Tryz.t554.desc) .leaf .leaf) .leaf) (.node (some Tryz.t426.desc) (.node (some Tryz.t682.desc) .leaf .leaf) .leaf)) (.node (some Tryz.t234.desc)
  (.node (some Tryz.t362.desc) (.node (some Tryz.t618.desc) .leaf .leaf) .leaf) (.node (some Tryz.t490.desc) (.node (some Tryz.t746.desc) .leaf .leaf) .leaf))))
  (.node (some Tryz.t58.desc) (.node (some Tryz.t90.desc) (.node (some Tryz.t154.desc) (.node (some Tryz.t282.desc) (.node (some Tryz.t538.desc) .leaf .leaf)
  .leaf) (.node (some Tryz.t410.desc) (.node (some Tryz.t666.desc) .leaf .leaf) .leaf)) (.node (some Tryz.t218.desc) (.node (some Tryz.t345.desc) (.node (some
  Tryz.t602.desc) .leaf .leaf) .leaf) (.node (some Tryz.t474.desc) (.node (some Tryz.t730.desc) .leaf .leaf) .leaf))) (.node (some Tryz.t122.desc) (.node (some
  Tryz.t186.desc) (.node (some Tryz.t314.desc) (.node (some Tryz.t570.desc) .leaf .leaf) .leaf) (.node (some Tryz.t441.desc) (.node (some Tryz.t698.desc) .leaf
  .leaf) .leaf)) (.node (some Tryz.t249.desc) (.node (some Tryz.t378.desc) (.node (some Tryz.t634.desc) .leaf .leaf) .leaf) (.node (some Tryz.t506.desc) (.node
  (some Tryz.t762.desc) .leaf .leaf) .leaf)))))) (.node (some Tryz.t13.desc) (.node (some Tryz.t22.desc) (.node (some Tryz.t38.desc) (.node (some Tryz.t70.desc)
  (.node (some Tryz.t134.desc) (.node (some Tryz.t262.desc) (.node (some Tryz.t518.desc) .leaf .leaf) (.node (some Tryz.t773.desc) .leaf .leaf)) (.node (some
  Tryz.t389.desc) (.node (some Tryz.t645.desc) .leaf .leaf) .leaf)) (.node (some Tryz.t197.desc) (.node (some Tryz.t326.desc) (.node (some Tryz.t582.desc) .leaf
  .leaf) .leaf) (.node (some Tryz.t454.desc) (.node (some Tryz.t710.desc) .leaf .leaf) .leaf))) (.node (some Tryz.t102.desc) (.node (some Tryz.t166.desc) (.node
  (some Tryz.t294.desc) (.node (some Tryz.t550.desc) .leaf .leaf) .leaf) (.node (some Tryz.t422.desc) (.node (some Tryz.t678.desc) .leaf .leaf) .leaf)) (.node
  (some Tryz.t230.desc) (.node (some Tryz.t358.desc) (.node (some Tryz.t614.desc) .leaf .leaf) .leaf) (.node (some Tryz.t486.desc) (.node (some Tryz.t742.desc)
  .leaf .leaf) .leaf)))) (.node (some Tryz.t54.desc) (.node (some Tryz.t86.desc) (.node (some Tryz.t150.desc) (.node (some Tryz.t278.desc) (.node (some
  Tryz.t534.desc) .leaf .leaf) .leaf) (.node (some Tryz.t405.desc) (.node (some Tryz.t662.desc) .leaf .leaf) .leaf)) (.node (some Tryz.t214.desc) (.node (some
  Tryz.t341.desc) (.node (some Tryz.t598.desc) .leaf .leaf) .leaf) (.node (some Tryz.t470.desc) (.node (some Tryz.t726.desc) .leaf .leaf) .leaf))) (.node (some
  Tryz.t118.desc) (.node (some Tryz.t182.desc) (.node (some Tryz.t310.desc) (.node (some Tryz.t566.desc) .leaf .leaf) .leaf) (.node (some Tryz.t438.desc) (.node
  (some Tryz.t694.desc) .leaf .leaf) .leaf)) (.node (some Tryz.t246.desc) (.node (some Tryz.t374.desc) (.node (some Tryz.t630.desc) .leaf .leaf) .leaf) (.node
  (some Tryz.t502.desc) (.node (some Tryz.t758.desc) .leaf .leaf) .leaf))))) (.node (some Tryz.t30.desc) (.node (some Tryz.t46.desc) (.node (some Tryz.t78.desc)
  (.node (some Tryz.t142.desc) (.node (some Tryz.t270.desc) (.node (some Tryz.t525.desc) .leaf .leaf) (.node (some Tryz.t21.desc) .leaf .leaf)) (.node (some
  Tryz.t398.desc) (.node (some Tryz.t653.desc) .leaf .leaf) .leaf)) (.node (some Tryz.t206.desc) (.node (some Tryz.t333.desc) (.node (some Tryz.t590.desc) .leaf
  .leaf) .leaf) (.node (some Tryz.t462.desc) (.node (some Tryz.t718.desc) .leaf .leaf) .leaf))) (.node (some Tryz.t110.desc) (.node (some Tryz.t174.desc) (.node
  (some Tryz.t302.desc) (.node (some Tryz.t558.desc) .leaf .leaf) .leaf) (.node (some Tryz.t430.desc) (.node (some Tryz.t686.desc) .leaf .leaf) .leaf)) (.node
  (some Tryz.t238.desc) (.node (some Tryz.t366.desc) (.node (some Tryz.t622.desc) .leaf .leaf) .leaf) (.node (some Tryz.t3.desc) (.node (some Tryz.t750.desc)
  .leaf .leaf) .leaf)))) (.node (some Tryz.t62.desc) (.node (some Tryz.t94.desc) (.node (some Tryz.t158.desc) (.node (some Tryz.t286.desc) (.node (some
  Tryz.t542.desc) .leaf .leaf) .leaf) (.node (some Tryz.t414.desc) (.node (some Tryz.t670.desc) .leaf .leaf) .leaf)) (.node (some Tryz.t221.desc) (.node (some
  Tryz.t350.desc) (.node (some Tryz.t605.desc) .leaf .leaf) .leaf) (.node (some Tryz.t478.desc) (.node (some Tryz.t734.desc) .leaf .leaf) .leaf))) (.node (some
  Tryz.t126.desc) (.node (some Tryz.t189.desc) (.node (some Tryz.t318.desc) (.node (some Tryz.t574.desc) .leaf .leaf) .leaf) (.node (some Tryz.t446.desc) (.node
  (some Tryz.t702.desc) .leaf .leaf) .leaf)) (.node (some Tryz.t254.desc) (.node (some Tryz.t382.desc) (.node (some Tryz.t637.desc) .leaf .leaf) .leaf) (.node
  (some Tryz.t510.desc) (.node (some Tryz.t53.desc) .leaf .leaf) .leaf)))))))))
noncomputable def funcT : T Func :=
  (.node (some Tryz.f0) (.node (some Tryz.f1) (.node (some Tryz.f3) (.node (some Tryz.f7) (.node (some Tryz.f15) (.node (some Tryz.f31) (.node (some Tryz.f63)
  (.node (some Tryz.f127) (.node (some Tryz.f255) (.node (some Tryz.f511) .leaf .leaf) .leaf) (.node (some Tryz.f383) (.node (some Tryz.f639) .leaf .leaf)
  .leaf)) (.node (some Tryz.f191) (.node (some Tryz.f319) (.node (some Tryz.f575) .leaf .leaf) .leaf) (.node (some Tryz.f447) .leaf .leaf))) (.node (some
  Tryz.f95) (.node (some Tryz.f159) (.node (some Tryz.f287) (.node (some Tryz.f543) .leaf .leaf) .leaf) (.node (some Tryz.f415) .leaf .leaf)) (.node (some
  Tryz.f223) (.node (some Tryz.f351) (.node (some Tryz.f607) .leaf .leaf) .leaf) (.node (some Tryz.f479) .leaf .leaf)))) (.node (some Tryz.f47) (.node (some
  Tryz.f79) (.node (some Tryz.f143) (.node (some Tryz.f271) (.node (some Tryz.f527) .leaf .leaf) .leaf) (.node (some Tryz.f399) (.node (some Tryz.f655) .leaf
  .leaf) .leaf)) (.node (some Tryz.f207) (.node (some Tryz.f335) (.node (some Tryz.f591) .leaf .leaf) .leaf) (.node (some Tryz.f463) .leaf .leaf))) (.node (some
  Tryz.f111) (.node (some Tryz.f175) (.node (some Tryz.f303) (.node (some Tryz.f559) .leaf .leaf) .leaf) (.node (some Tryz.f431) .leaf .leaf)) (.node (some
  Tryz.f239) (.node (some Tryz.f367) (.node (some Tryz.f623) .leaf .leaf) .leaf) (.node (some Tryz.f495) .leaf .leaf))))) (.node (some Tryz.f23) (.node (some
  Tryz.f39) (.node (some Tryz.f71) (.node (some Tryz.f135) (.node (some Tryz.f263) (.node (some Tryz.f519) .leaf .leaf) .leaf) (.node (some Tryz.f391) (.node
  (some Tryz.f647) .leaf .leaf) .leaf)) (.node (some Tryz.f199) (.node (some Tryz.f327) (.node (some Tryz.f583) .leaf .leaf) .leaf) (.node (some Tryz.f455)
  .leaf .leaf))) (.node (some Tryz.f103) (.node (some Tryz.f167) (.node (some Tryz.f295) (.node (some Tryz.f551) .leaf .leaf) .leaf) (.node (some Tryz.f423)
  .leaf .leaf)) (.node (some Tryz.f231) (.node (some Tryz.f359) (.node (some Tryz.f615) .leaf .leaf) .leaf) (.node (some Tryz.f487) .leaf .leaf)))) (.node (some
  Tryz.f55) (.node (some Tryz.f87) (.node (some Tryz.f151) (.node (some Tryz.f279) (.node (some Tryz.f535) .leaf .leaf) .leaf) (.node (some Tryz.f407) (.node
  (some Tryz.f663) .leaf .leaf) .leaf)) (.node (some Tryz.f215) (.node (some Tryz.f343) (.node (some Tryz.f599) .leaf .leaf) .leaf) (.node (some Tryz.f471)
  .leaf .leaf))) (.node (some Tryz.f119) (.node (some Tryz.f183) (.node (some Tryz.f311) (.node (some Tryz.f567) .leaf .leaf) .leaf) (.node (some Tryz.f439)
  .leaf .leaf)) (.node (some Tryz.f247) (.node (some Tryz.f375) (.node (some Tryz.f631) .leaf .leaf) .leaf) (.node (some Tryz.f503) .leaf .leaf)))))) (.node
  (some Tryz.f11) (.node (some Tryz.f19) (.node (some Tryz.f35) (.node (some Tryz.f67) (.node (some Tryz.f131) (.node (some Tryz.f259) (.node (some Tryz.f515)
  .leaf .leaf) .leaf) (.node (some Tryz.f387) (.node (some Tryz.f643) .leaf .leaf) .leaf)) (.node (some Tryz.f195) (.node (some Tryz.f323) (.node (some
  Tryz.f579) .leaf .leaf) .leaf) (.node (some Tryz.f451) .leaf .leaf))) (.node (some Tryz.f99) (.node (some Tryz.f163) (.node (some Tryz.f291) (.node (some
  Tryz.f547) .leaf .leaf) .leaf) (.node (some Tryz.f419) .leaf .leaf)) (.node (some Tryz.f227) (.node (some Tryz.f355) (.node (some Tryz.f611) .leaf .leaf)
  .leaf) (.node (some Tryz.f483) .leaf .leaf)))) (.node (some Tryz.f51) (.node (some Tryz.f83) (.node (some Tryz.f147) (.node (some Tryz.f275) (.node (some
  Tryz.f531) .leaf .leaf) .leaf) (.node (some Tryz.f403) (.node (some Tryz.f659) .leaf .leaf) .leaf)) (.node (some Tryz.f211) (.node (some Tryz.f339) (.node
  (some Tryz.f595) .leaf .leaf) .leaf) (.node (some Tryz.f467) .leaf .leaf))) (.node (some Tryz.f115) (.node (some Tryz.f179) (.node (some Tryz.f307) (.node
  (some Tryz.f563) .leaf .leaf) .leaf) (.node (some Tryz.f435) .leaf .leaf)) (.node (some Tryz.f243) (.node (some Tryz.f371) (.node (some Tryz.f627) .leaf
  .leaf) .leaf) (.node (some Tryz.f499) .leaf .leaf))))) (.node (some Tryz.f27) (.node (some Tryz.f43) (.node (some Tryz.f75) (.node (some Tryz.f139) (.node
  (some Tryz.f267) (.node (some Tryz.f523) .leaf .leaf) .leaf) (.node (some Tryz.f395) (.node (some Tryz.f651) .leaf .leaf) .leaf)) (.node (some Tryz.f203)
  (.node (some Tryz.f331) (.node (some Tryz.f587) .leaf .leaf) .leaf) (.node (some Tryz.f459) .leaf .leaf))) (.node (some Tryz.f107) (.node (some Tryz.f171)
  (.node (some Tryz.f299) (.node (some Tryz.f555) .leaf .leaf) .leaf) (.node (some Tryz.f427) .leaf .leaf)) (.node (some Tryz.f235) (.node (some Tryz.f363)
  (.node (some Tryz.f619) .leaf .leaf) .leaf) (.node (some Tryz.f491) .leaf .leaf)))) (.node (some Tryz.f59) (.node (some Tryz.f91) (.node (some Tryz.f155)
  (.node (some Tryz.f283) (.node (some Tryz.f539) .leaf .leaf) .leaf) (.node (some Tryz.f411) (.node (some Tryz.f667) .leaf .leaf) .leaf)) (.node (some
  Tryz.f219) (.node (some Tryz.f347) (.node (some Tryz.f603) .leaf .leaf) .leaf) (.node (some Tryz.f475) .leaf .leaf))) (.node (some Tryz.f123) (.node (some
  Tryz.f187) (.node (some Tryz.f315) (.node (some Tryz.f571) .leaf .leaf) .leaf) (.node (some Tryz.f443) .leaf .leaf)) (.node (some Tryz.f251) (.node (some
  Tryz.f379) (.node (some Tryz.f635) .leaf .leaf) .leaf) (.node (some Tryz.f507) .leaf .leaf))))))) (.node (some Tryz.f5) (.node (some Tryz.f9) (.node (some
  Tryz.f17) (.node (some Tryz.f33) (.node (some Tryz.f65) (.node (some Tryz.f129) (.node (some Tryz.f257) (.node (some Tryz.f513) .leaf .leaf) .leaf) (.node
  (some Tryz.f385) (.node (some Tryz.f641) .leaf .leaf) .leaf)) (.node (some Tryz.f193) (.node (some Tryz.f321) (.node (some Tryz.f577) .leaf .leaf) .leaf)
  (.node (some Tryz.f449) .leaf .leaf))) (.node (some Tryz.f97) (.node (some Tryz.f161) (.node (some Tryz.f289) (.node (some Tryz.f545) .leaf .leaf) .leaf)
  (.node (some Tryz.f417) .leaf .leaf)) (.node (some Tryz.f225) (.node (some Tryz.f353) (.node (some Tryz.f609) .leaf .leaf) .leaf) (.node (some Tryz.f481)
  .leaf .leaf)))) (.node (some Tryz.f49) (.node (some Tryz.f81) (.node (some Tryz.f145) (.node (some Tryz.f273) (.node (some Tryz.f529) .leaf .leaf) .leaf)
  (.node (some Tryz.f401) (.node (some Tryz.f657) .leaf .leaf) .leaf)) (.node (some Tryz.f209) (.node (some Tryz.f337) (.node (some Tryz.f593) .leaf .leaf)
  .leaf) (.node (some Tryz.f465) .leaf .leaf))) (.node (some Tryz.f113) (.node (some Tryz.f177) (.node (some Tryz.f305) (.node (some Tryz.f561) .leaf .leaf)
  .leaf) (.node (some Tryz.f433) .leaf .leaf)) (.node (some Tryz.f241) (.node (some Tryz.f369) (.node (some Tryz.f625) .leaf .leaf) .leaf) (.node (some
  Tryz.f497) .leaf .leaf))))) (.node (some Tryz.f25) (.node (some Tryz.f41) (.node (some Tryz.f73) (.node (some Tryz.f137) (.node (some Tryz.f265) (.node (some
  Tryz.f521) .leaf .leaf) .leaf) (.node (some Tryz.f393) (.node (some Tryz.f649) .leaf .leaf) .leaf)) (.node (some Tryz.f201) (.node (some Tryz.f329) (.node
  (some Tryz.f585) .leaf .leaf) .leaf) (.node (some Tryz.f457) .leaf .leaf))) (.node (some Tryz.f105) (.node (some Tryz.f169) (.node (some Tryz.f297) (.node
  (some Tryz.f553) .leaf .leaf) .leaf) (.node (some Tryz.f425) .leaf .leaf)) (.node (some Tryz.f233) (.node (some Tryz.f361) (.node (some Tryz.f617) .leaf
  .leaf) .leaf) (.node (some Tryz.f489) .leaf .leaf)))) (.node (some Tryz.f57) (.node (some Tryz.f89) (.node (some Tryz.f153) (.node (some Tryz.f281) (.node
  (some Tryz.f537) .leaf .leaf) .leaf) (.node (some Tryz.f409) (.node (some Tryz.f665) .leaf .leaf) .leaf)) (.node (some Tryz.f217) (.node (some Tryz.f345)
  (.node (some Tryz.f601) .leaf .leaf) .leaf) (.node (some Tryz.f473) .leaf .leaf))) (.node (some Tryz.f121) (.node (some Tryz.f185) (.node (some Tryz.f313)
  (.node (some Tryz.f569) .leaf .leaf) .leaf) (.node (some Tryz.f441) .leaf .leaf)) (.node (some Tryz.f249) (.node (some Tryz.f377) (.node (some Tryz.f633)
  .leaf .leaf) .leaf) (.node (some Tryz.f505) .leaf .leaf)))))) (.node (some Tryz.f13) (.node (some Tryz.f21) (.node (some Tryz.f37) (.node (some Tryz.f69)
  (.node (some Tryz.f133) (.node (some Tryz.f261) (.node (some Tryz.f517) .leaf .leaf) .leaf) (.node (some Tryz.f389) (.node (some Tryz.f645) .leaf .leaf)
  .leaf)) (.node (some Tryz.f197) (.node (some Tryz.f325) (.node (some Tryz.f581) .leaf .leaf) .leaf) (.node (some Tryz.f453) .leaf .leaf))) (.node (some
  Tryz.f101) (.node (some Tryz.f165) (.node (some Tryz.f293) (.node (some Tryz.f549) .leaf .leaf) .leaf) (.node (some Tryz.f421) .leaf .leaf)) (.node (some
  Tryz.f229) (.node (some Tryz.f357) (.node (some Tryz.f613) .leaf .leaf) .leaf) (.node (some Tryz.f485) .leaf .leaf)))) (.node (some Tryz.f53) (.node (some
  Tryz.f85) (.node (some Tryz.f149) (.node (some Tryz.f277) (.node (some Tryz.f533) .leaf .leaf) .leaf) (.node (some Tryz.f405) (.node (some Tryz.f661) .leaf
  .leaf) .leaf)) (.node (some Tryz.f213) (.node (some Tryz.f341) (.node (some Tryz.f597) .leaf .leaf) .leaf) (.node (some Tryz.f469) .leaf .leaf))) (.node (some
  Tryz.f117) (.node (some Tryz.f181) (.node (some Tryz.f309) (.node (some Tryz.f565) .leaf .leaf) .leaf) (.node (some Tryz.f437) .leaf .leaf)) (.node (some
  Tryz.f245) (.node (some Tryz.f373) (.node (some Tryz.f629) .leaf .leaf) .leaf) (.node (some Tryz.f501) .leaf .leaf))))) (.node (some Tryz.f29) (.node (some
  Tryz.f45) (.node (some Tryz.f77) (.node (some Tryz.f141) (.node (some Tryz.f269) (.node (some Tryz.f525) .leaf .leaf) .leaf) (.node (some Tryz.f397) (.node
  (some Tryz.f653) .leaf .leaf) .leaf)) (.node (some Tryz.f205) (.node (some Tryz.f333) (.node (some Tryz.f589) .leaf .leaf) .leaf) (.node (some Tryz.f461)
  .leaf .leaf))) (.node (some Tryz.f109) (.node (some Tryz.f173) (.node (some Tryz.f301) (.node (some Tryz.f557) .leaf .leaf) .leaf) (.node (some Tryz.f429)
  .leaf .leaf)) (.node (some Tryz.f237) (.node (some Tryz.f365) (.node (some Tryz.f621) .leaf .leaf) .leaf) (.node (some Tryz.f493) .leaf .leaf)))) (.node (some
  Tryz.f61) (.node (some Tryz.f93) (.node (some Tryz.f157) (.node (some Tryz.f285) (.node (some Tryz.f541) .leaf .leaf) .leaf) (.node (some Tryz.f413) .leaf
  .leaf)) (.node (some Tryz.f221) (.node (some Tryz.f349) (.node (some Tryz.f605) .leaf .leaf) .leaf) (.node (some Tryz.f477) .leaf .leaf))) (.node (some
  Tryz.f125) (.node (some Tryz.f189) (.node (some Tryz.f317) (.node (some Tryz.f573) .leaf .leaf) .leaf) (.node (some Tryz.f445) .leaf .leaf)) (.node (some
  Tryz.f253) (.node (some Tryz.f381) (.node (some Tryz.f637) .leaf .leaf) .leaf) (.node (some Tryz.f509) .leaf .leaf)))))))) (.node (some Tryz.f2) (.node (some
  Tryz.f4) (.node (some Tryz.f8) (.node (some Tryz.f16) (.node (some Tryz.f32) (.node (some Tryz.f64) (.node (some Tryz.f128) (.node (some Tryz.f256) (.node
  (some Tryz.f512) .leaf .leaf) .leaf) (.node (some Tryz.f384) (.node (some Tryz.f640) .leaf .leaf) .leaf)) (.node (some Tryz.f192) (.node (some Tryz.f320)
  (.node (some Tryz.f576) .leaf .leaf) .leaf) (.node (some Tryz.f448) .leaf .leaf))) (.node (some Tryz.f96) (.node (some Tryz.f160) (.node (some Tryz.f288)
  (.node (some Tryz.f544) .leaf .leaf) .leaf) (.node (some Tryz.f416) .leaf .leaf)) (.node (some Tryz.f224) (.node (some Tryz.f352) (.node (some Tryz.f608)
  .leaf .leaf) .leaf) (.node (some Tryz.f480) .leaf .leaf)))) (.node (some Tryz.f48) (.node (some Tryz.f80) (.node (some Tryz.f144) (.node (some Tryz.f272)
  (.node (some Tryz.f528) .leaf .leaf) .leaf) (.node (some Tryz.f400) (.node (some Tryz.f656) .leaf .leaf) .leaf)) (.node (some Tryz.f208) (.node (some
  Tryz.f336) (.node (some Tryz.f592) .leaf .leaf) .leaf) (.node (some Tryz.f464) .leaf .leaf))) (.node (some Tryz.f112) (.node (some Tryz.f176) (.node (some
  Tryz.f304) (.node (some Tryz.f560) .leaf .leaf) .leaf) (.node (some Tryz.f432) .leaf .leaf)) (.node (some Tryz.f240) (.node (some Tryz.f368) (.node (some
  Tryz.f624) .leaf .leaf) .leaf) (.node (some Tryz.f496) .leaf .leaf))))) (.node (some Tryz.f24) (.node (some Tryz.f40) (.node (some Tryz.f72) (.node (some
  Tryz.f136) (.node (some Tryz.f264) (.node (some Tryz.f520) .leaf .leaf) .leaf) (.node (some Tryz.f392) (.node (some Tryz.f648) .leaf .leaf) .leaf)) (.node
  (some Tryz.f200) (.node (some Tryz.f328) (.node (some Tryz.f584) .leaf .leaf) .leaf) (.node (some Tryz.f456) .leaf .leaf))) (.node (some Tryz.f104) (.node
  (some Tryz.f168) (.node (some Tryz.f296) (.node (some Tryz.f552) .leaf .leaf) .leaf) (.node (some Tryz.f424) .leaf .leaf)) (.node (some Tryz.f232) (.node
  (some Tryz.f360) (.node (some Tryz.f616) .leaf .leaf) .leaf) (.node (some Tryz.f488) .leaf .leaf)))) (.node (some Tryz.f56) (.node (some Tryz.f88) (.node
  (some Tryz.f152) (.node (some Tryz.f280) (.node (some Tryz.f536) .leaf .leaf) .leaf) (.node (some Tryz.f408) (.node (some Tryz.f664) .leaf .leaf) .leaf))
  (.node (some Tryz.f216) (.node (some Tryz.f344) (.node (some Tryz.f600) .leaf .leaf) .leaf) (.node (some Tryz.f472) .leaf .leaf))) (.node (some Tryz.f120)
  (.node (some Tryz.f184) (.node (some Tryz.f312) (.node (some Tryz.f568) .leaf .leaf) .leaf) (.node (some Tryz.f440) .leaf .leaf)) (.node (some Tryz.f248)
  (.node (some Tryz.f376) (.node (some Tryz.f632) .leaf .leaf) .leaf) (.node (some Tryz.f504) .leaf .leaf)))))) (.node (some Tryz.f12) (.node (some Tryz.f20)
  (.node (some Tryz.f36) (.node (some Tryz.f68) (.node (some Tryz.f132) (.node (some Tryz.f260) (.node (some Tryz.f516) .leaf .leaf) .leaf) (.node (some
  Tryz.f388) (.node (some Tryz.f644) .leaf .leaf) .leaf)) (.node (some Tryz.f196) (.node (some Tryz.f324) (.node (some Tryz.f580) .leaf .leaf) .leaf) (.node
  (some Tryz.f452) .leaf .leaf))) (.node (some Tryz.f100) (.node (some Tryz.f164) (.node (some Tryz.f292) (.node (some Tryz.f548) .leaf .leaf) .leaf) (.node
  (some Tryz.f420) .leaf .leaf)) (.node (some Tryz.f228) (.node (some Tryz.f356) (.node (some Tryz.f612) .leaf .leaf) .leaf) (.node (some Tryz.f484) .leaf
  .leaf)))) (.node (some Tryz.f52) (.node (some Tryz.f84) (.node (some Tryz.f148) (.node (some Tryz.f276) (.node (some Tryz.f532) .leaf .leaf) .leaf) (.node
  (some Tryz.f404) (.node (some Tryz.f660) .leaf .leaf) .leaf)) (.node (some Tryz.f212) (.node (some Tryz.f340) (.node (some Tryz.f596) .leaf .leaf) .leaf)
  (.node (some Tryz.f468) .leaf .leaf))) (.node (some Tryz.f116) (.node (some Tryz.f180) (.node (some Tryz.f308) (.node (some Tryz.f564) .leaf .leaf) .leaf)
  (.node (some Tryz.f436) .leaf .leaf)) (.node (some Tryz.f244) (.node (some Tryz.f372) (.node (some Tryz.f628) .leaf .leaf) .leaf) (.node (some Tryz.f500)
  .leaf .leaf))))) (.node (some Tryz.f28) (.node (some Tryz.f44) (.node (some Tryz.f76) (.node (some Tryz.f140) (.node (some Tryz.f268) (.node (some Tryz.f524)
  .leaf .leaf) .leaf) (.node (some Tryz.f396) (.node (some Tryz.f652) .leaf .leaf) .leaf)) (.node (some Tryz.f204) (.node (some Tryz.f332) (.node (some
  Tryz.f588) .leaf .leaf) .leaf) (.node (some Tryz.f460) .leaf .leaf))) (.node (some Tryz.f108) (.node (some Tryz.f172) (.node (some Tryz.f300) (.node (some
  Tryz.f556) .leaf .leaf) .leaf) (.node (some Tryz.f428) .leaf .leaf)) (.node (some Tryz.f236) (.node (some Tryz.f364) (.node (some Tryz.f620) .leaf .leaf)
  .leaf) (.node (some Tryz.f492) .leaf .leaf)))) (.node (some Tryz.f60) (.node (some Tryz.f92) (.node (some Tryz.f156) (.node (some Tryz.f284) (.node (some
  Tryz.f540) .leaf .leaf) .leaf) (.node (some Tryz.f412) .leaf .leaf)) (.node (some Tryz.f220) (.node (some Tryz.f348) (.node (some Tryz.f604) .leaf .leaf)
  .leaf) (.node (some Tryz.f476) .leaf .leaf))) (.node (some Tryz.f124) (.node (some Tryz.f188) (.node (some Tryz.f316) (.node (some Tryz.f572) .leaf .leaf)
  .leaf) (.node (some Tryz.f444) .leaf .leaf)) (.node (some Tryz.f252) (.node (some Tryz.f380) (.node (some Tryz.f636) .leaf .leaf) .leaf) (.node (some
  Tryz.f508) .leaf .leaf))))))) (.node (some Tryz.f6) (.node (some Tryz.f10) (.node (some Tryz.f18) (.node (some Tryz.f34) (.node (some Tryz.f66) (.node (some
  Tryz.f130) (.node (some Tryz.f258) (.node (some Tryz.f514) .leaf .leaf) .leaf) (.node (some Tryz.f386) (.node (some Tryz.f642) .leaf .leaf) .leaf)) (.node
  (some Tryz.f194) (.node (some Tryz.f322) (.node (some Tryz.f578) .leaf .leaf) .leaf) (.node (some Tryz.f450) .leaf .leaf))) (.node (some Tryz.f98) (.node
  (some Tryz.f162) (.node (some Tryz.f290) (.node (some Tryz.f546) .leaf .leaf) .leaf) (.node (some Tryz.f418) .leaf .leaf)) (.node (some Tryz.f226) (.node
  (some Tryz.f354) (.node (some Tryz.f610) .leaf .leaf) .leaf) (.node (some Tryz.f482) .leaf .leaf)))) (.node (some Tryz.f50) (.node (some Tryz.f82) (.node
  (some Tryz.f146) (.node (some Tryz.f274) (.node (some Tryz.f530) .leaf .leaf) .leaf) (.node (some Tryz.f402) (.node (some Tryz.f658) .leaf .leaf) .leaf))
  (.node (some Tryz.f210) (.node (some Tryz.f338) (.node (some Tryz.f594) .leaf .leaf) .leaf) (.node (some Tryz.f466) .leaf .leaf))) (.node (some Tryz.f114)
  (.node (some Tryz.f178) (.node (some Tryz.f306) (.node (some Tryz.f562) .leaf .leaf) .leaf) (.node (some Tryz.f434) .leaf .leaf)) (.node (some Tryz.f242)
  (.node (some Tryz.f370) (.node (some Tryz.f626) .leaf .leaf) .leaf) (.node (some Tryz.f498) .leaf .leaf))))) (.node (some Tryz.f26) (.node (some Tryz.f42)
  (.node (some Tryz.f74) (.node (some Tryz.f138) (.node (some Tryz.f266) (.node (some Tryz.f522) .leaf .leaf) .leaf) (.node (some Tryz.f394) (.node (some
  Tryz.f650) .leaf .leaf) .leaf)) (.node (some Tryz.f202) (.node (some Tryz.f330) (.node (some Tryz.f586) .leaf .leaf) .leaf) (.node (some Tryz.f458) .leaf
  .leaf))) (.node (some Tryz.f106) (.node (some Tryz.f170) (.node (some Tryz.f298) (.node (some Tryz.f554) .leaf .leaf) .leaf) (.node (some Tryz.f426) .leaf
  .leaf)) (.node (some Tryz.f234) (.node (some Tryz.f362) (.node (some Tryz.f618) .leaf .leaf) .leaf) (.node (some Tryz.f490) .leaf .leaf)))) (.node (some
  Tryz.f58) (.node (some Tryz.f90) (.node (some Tryz.f154) (.node (some Tryz.f282) (.node (some Tryz.f538) .leaf .leaf) .leaf) (.node (some Tryz.f410) (.node
  (some Tryz.f666) .leaf .leaf) .leaf)) (.node (some Tryz.f218) (.node (some Tryz.f346) (.node (some Tryz.f602) .leaf .leaf) .leaf) (.node (some Tryz.f474)
  .leaf .leaf))) (.node (some Tryz.f122) (.node (some Tryz.f186) (.node (some Tryz.f314) (.node (some Tryz.f570) .leaf .leaf) .leaf) (.node (some Tryz.f442)
  .leaf .leaf)) (.node (some Tryz.f250) (.node (some Tryz.f378) (.node (some Tryz.f634) .leaf .leaf) .leaf) (.node (some Tryz.f506) .leaf .leaf)))))) (.node
  (some Tryz.f14) (.node (some Tryz.f22) (.node (some Tryz.f38) (.node (some Tryz.f70) (.node (some Tryz.f134) (.node (some Tryz.f262) (.node (some Tryz.f518)
  .leaf .leaf) .leaf) (.node (some Tryz.f390) (.node (some Tryz.f646) .leaf .leaf) .leaf)) (.node (some Tryz.f198) (.node (some Tryz.f326) (.node (some
  Tryz.f582) .leaf .leaf) .leaf) (.node (some Tryz.f454) .leaf .leaf))) (.node (some Tryz.f102) (.node (some Tryz.f166) (.node (some Tryz.f294) (.node (some
  Tryz.f550) .leaf .leaf) .leaf) (.node (some Tryz.f422) .leaf .leaf)) (.node (some Tryz.f230) (.node (some Tryz.f358) (.node (some Tryz.f614) .leaf .leaf)
  .leaf) (.node (some Tryz.f486) .leaf .leaf)))) (.node (some Tryz.f54) (.node (some Tryz.f86) (.node (some Tryz.f150) (.node (some Tryz.f278) (.node (some
  Tryz.f534) .leaf .leaf) .leaf) (.node (some Tryz.f406) (.node (some Tryz.f662) .leaf .leaf) .leaf)) (.node (some Tryz.f214) (.node (some Tryz.f342) (.node
  (some Tryz.f598) .leaf .leaf) .leaf) (.node (some Tryz.f470) .leaf .leaf))) (.node (some Tryz.f118) (.node (some Tryz.f182) (.node (some Tryz.f310) (.node
  (some Tryz.f566) .leaf .leaf) .leaf) (.node (some Tryz.f438) .leaf .leaf)) (.node (some Tryz.f246) (.node (some Tryz.f374) (.node (some Tryz.f630) .leaf
  .leaf) .leaf) (.node (some Tryz.f502) .leaf .leaf))))) (.node (some Tryz.f30) (.node (some Tryz.f46) (.node (some Tryz.f78) (.node (some Tryz.f142) (.node
  (some Tryz.f270) (.node (some Tryz.f526) .leaf .leaf) .leaf) (.node (some Tryz.f398) (.node (some Tryz.f654) .leaf .leaf) .leaf)) (.node (some Tryz.f206)
  (.node (some Tryz.f334) (.node (some Tryz.f590) .leaf .leaf) .leaf) (.node (some Tryz.f462) .leaf .leaf))) (.node (some Tryz.f110) (.node (some Tryz.f174)
  (.node (some Tryz.f302) (.node (some Tryz.f558) .leaf .leaf) .leaf) (.node (some Tryz.f430) .leaf .leaf)) (.node (some Tryz.f238) (.node (some Tryz.f366)
  (.node (some Tryz.f622) .leaf .leaf) .leaf) (.node (some Tryz.f494) .leaf .leaf)))) (.node (some Tryz.f62) (.node (some Tryz.f94) (.node (some Tryz.f158)
  (.node (some Tryz.f286) (.node (some Tryz.f542) .leaf .leaf) .leaf) (.node (some Tryz.f414) .leaf .leaf)) (.node (some Tryz.f222) (.node (some Tryz.f350)
  (.node (some Tryz.f606) .leaf .leaf) .leaf) (.node (some Tryz.f478) .leaf .leaf))) (.node (some Tryz.f126) (.node (some Tryz.f190) (.node (some Tryz.f318)
  (.node (some Tryz.f574) .leaf .leaf) .leaf) (.node (some Tryz.f446) .leaf .leaf)) (.node (some Tryz.f254) (.node (some Tryz.f382) (.node (some Tryz.f638)
  .leaf .leaf) .leaf) (.node (some Tryz.f510) .leaf .leaf)))))))))
/-- the tables, as tries -/
noncomputable def tb0 : Tab := { info := infoT.get, und := undT.get, func := funcT.get }
theorem tb0_ok [Interp] : tb0.OK Tryz.prog :=
  tabOK (types := typeRows) (unds := undRows) (funcs := funcRows) (by kernel_rfl) (by kernel_rfl) (by kernel_rfl) (by kernel_rfl) (by kernel_rfl) (by kernel_rfl) (by kernel_rfl) (by kernel_rfl) (by kernel_rfl)
theorem ext282 : ExtOK Tryz.prog (282, .count) := ⟨Tryz.f282, by kernel_rfl, by kernel_rfl, by kernel_rfl, by kernel_rfl, by kernel_rfl⟩
/-- functions that the model does by itself -/
noncomputable def exts : List (Nat × Ext) := [(282, .count)]
theorem exts_ok : ∀ q ∈ exts, ExtOK Tryz.prog q := List.forall_mem_cons.2 ⟨ext282, fun _ h => by cases h⟩
noncomputable def tb : Tab := { tb0 with ext := extAt exts }
theorem tb_ok [Interp] : tb.OK Tryz.prog := tb0_ok.exts exts_ok
end Go.Proofs.YtiemogegdoogaaaGreat
