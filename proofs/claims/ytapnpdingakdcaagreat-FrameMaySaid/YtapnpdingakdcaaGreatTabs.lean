/- The tables of this program as tries: each is the table itself, row by row. No condition. -/
import Derived.Test.YtapnpdingakdcaaGreatProg
import Derived.Test.YtapnpdingakdcaaGreatEngP
import Derived.KernelRfl
namespace Go.Proofs.YtapnpdingakdcaaGreat
open Go Go.Proofs.YtapnpdingakdcaaGreat.Eng Go.Proofs
noncomputable def typeRows : List TypeInfo := [
  Tryz.t0, Tryz.t1, Tryz.t2, Tryz.t3, Tryz.t4, Tryz.t5, Tryz.t6, Tryz.t7, Tryz.t8, Tryz.t9, Tryz.t10, Tryz.t11, Tryz.t12, Tryz.t13, Tryz.t14, Tryz.t15, Tryz.t16,
  Tryz.t17, Tryz.t18, Tryz.t19, Tryz.t20, Tryz.t21, Tryz.t22, Tryz.t23, Tryz.t24, Tryz.t25, Tryz.t26, Tryz.t27, Tryz.t28, Tryz.t29, Tryz.t30, Tryz.t31,
  Tryz.t32, Tryz.t33, Tryz.t34, Tryz.t35, Tryz.t36, Tryz.t37, Tryz.t38, Tryz.t39, Tryz.t40, Tryz.t41, Tryz.t42, Tryz.t43, Tryz.t44, Tryz.t45, Tryz.t46,
  Tryz.t47, Tryz.t48, Tryz.t49, Tryz.t50, Tryz.t51, Tryz.t52, Tryz.t53, Tryz.t54, Tryz.t55, Tryz.t56, Tryz.t57, Tryz.t58, Tryz.t59, Tryz.t60, Tryz.t61,
  Tryz.t62, Tryz.t63, Tryz.t64, Tryz.t65, Tryz.t66, Tryz.t67, Tryz.t68, Tryz.t69, Tryz.t70, Tryz.t71, Tryz.t72, Tryz.t73, Tryz.t74, Tryz.t75, Tryz.t76,
  Tryz.t77, Tryz.t78, Tryz.t79, Tryz.t80, Tryz.t81, Tryz.t82, Tryz.t83, Tryz.t84, Tryz.t85, Tryz.t86, Tryz.t87, Tryz.t88, Tryz.t89, Tryz.t90, Tryz.t91,
  Tryz.t92, Tryz.t93, Tryz.t94, Tryz.t95, Tryz.t96, Tryz.t97, Tryz.t98, Tryz.t99, Tryz.t100, Tryz.t101, Tryz.t102, Tryz.t103, Tryz.t104, Tryz.t105, Tryz.t106,
  Tryz.t107, Tryz.t108, Tryz.t109, Tryz.t110, Tryz.t111, Tryz.t112, Tryz.t113, Tryz.t114, Tryz.t115, Tryz.t116, Tryz.t117, Tryz.t118, Tryz.t119, Tryz.t120,
  Tryz.t121, Tryz.t122, Tryz.t123, Tryz.t124, Tryz.t125, Tryz.t126, Tryz.t127, Tryz.t128, Tryz.t129, Tryz.t130, Tryz.t131, Tryz.t132, Tryz.t133, Tryz.t134,
  Tryz.t135, Tryz.t136, Tryz.t137, Tryz.t138, Tryz.t139, Tryz.t140, Tryz.t141, Tryz.t142, Tryz.t143, Tryz.t144, Tryz.t145, Tryz.t146, Tryz.t147, Tryz.t148,
  Tryz.t149, Tryz.t150, Tryz.t151, Tryz.t152, Tryz.t153, Tryz.t154, Tryz.t155, Tryz.t156, Tryz.t157, Tryz.t158, Tryz.t159, Tryz.t160, Tryz.t161, Tryz.t162,
  Tryz.t163, Tryz.t164, Tryz.t165, Tryz.t166, Tryz.t167, Tryz.t168, Tryz.t169, Tryz.t170, Tryz.t171, Tryz.t172, Tryz.t173, Tryz.t174, Tryz.t175, Tryz.t176,
  Tryz.t177, Tryz.t178, Tryz.t179, Tryz.t180, Tryz.t181, Tryz.t182, Tryz.t183, Tryz.t184, Tryz.t185, Tryz.t186, Tryz.t187, Tryz.t188, Tryz.t189, Tryz.t190,
  Tryz.t191, Tryz.t192, Tryz.t193, Tryz.t194, Tryz.t195, Tryz.t196, Tryz.t197, Tryz.t198, Tryz.t199, Tryz.t200, Tryz.t201, Tryz.t202, Tryz.t203, Tryz.t204,
  Tryz.t205, Tryz.t206, Tryz.t207, Tryz.t208, Tryz.t209, Tryz.t210, Tryz.t211, Tryz.t212, Tryz.t213, Tryz.t214, Tryz.t215, Tryz.t216, Tryz.t217, Tryz.t218,
  Tryz.t219, Tryz.t220, Tryz.t221, Tryz.t222, Tryz.t223, Tryz.t224, Tryz.t225, Tryz.t226, Tryz.t227, Tryz.t228, Tryz.t229, Tryz.t230, Tryz.t231, Tryz.t232,
  Tryz.t233, Tryz.t234, Tryz.t235, Tryz.t236, Tryz.t237, Tryz.t238, Tryz.t239, Tryz.t240, Tryz.t241, Tryz.t242, Tryz.t243, Tryz.t244, Tryz.t245, Tryz.t246,
  Tryz.t247, Tryz.t248, Tryz.t249, Tryz.t250, Tryz.t251, Tryz.t252, Tryz.t253, Tryz.t254, Tryz.t255, Tryz.t256, Tryz.t257, Tryz.t258, Tryz.t259, Tryz.t260,
  Tryz.t261, Tryz.t262, Tryz.t263, Tryz.t264, Tryz.t265, Tryz.t266, Tryz.t267, Tryz.t268, Tryz.t269, Tryz.t270, Tryz.t271, Tryz.t272, Tryz.t273, Tryz.t274,
  Tryz.t275, Tryz.t276, Tryz.t277, Tryz.t278, Tryz.t279, Tryz.t280, Tryz.t281, Tryz.t282, Tryz.t283, Tryz.t284, Tryz.t285, Tryz.t286, Tryz.t287, Tryz.t288,
  Tryz.t289, Tryz.t290, Tryz.t291, Tryz.t292, Tryz.t293, Tryz.t294, Tryz.t295, Tryz.t296, Tryz.t297, Tryz.t298, Tryz.t299, Tryz.t300, Tryz.t301, Tryz.t302,
  Tryz.t303, Tryz.t304, Tryz.t305, Tryz.t306, Tryz.t307, Tryz.t308, Tryz.t309, Tryz.t310, Tryz.t311, Tryz.t312, Tryz.t313, Tryz.t314, Tryz.t315, Tryz.t316,
  Tryz.t317, Tryz.t318, Tryz.t319, Tryz.t320, Tryz.t321, Tryz.t322, Tryz.t323, Tryz.t324, Tryz.t325, Tryz.t326, Tryz.t327, Tryz.t328, Tryz.t329, Tryz.t330,
  Tryz.t331, Tryz.t332, Tryz.t333, Tryz.t334, Tryz.t335, Tryz.t336, Tryz.t337, Tryz.t338, Tryz.t339, Tryz.t340, Tryz.t341, Tryz.t342, Tryz.t343, Tryz.t344,
  Tryz.t345, Tryz.t346, Tryz.t347, Tryz.t348, Tryz.t349, Tryz.t350, Tryz.t351, Tryz.t352, Tryz.t353, Tryz.t354, Tryz.t355, Tryz.t356, Tryz.t357, Tryz.t358,
  Tryz.t359, Tryz.t360, Tryz.t361, Tryz.t362, Tryz.t363, Tryz.t364, Tryz.t365, Tryz.t366, Tryz.t367, Tryz.t368, Tryz.t369, Tryz.t370, Tryz.t371, Tryz.t372,
  Tryz.t373, Tryz.t374, Tryz.t375, Tryz.t376, Tryz.t377, Tryz.t378, Tryz.t379, Tryz.t380, Tryz.t381, Tryz.t382, Tryz.t383, Tryz.t384, Tryz.t385, Tryz.t386,
  Tryz.t387, Tryz.t388, Tryz.t389, Tryz.t390, Tryz.t391, Tryz.t392, Tryz.t393, Tryz.t394, Tryz.t395, Tryz.t396, Tryz.t397, Tryz.t398, Tryz.t399, Tryz.t400,
  Tryz.t401, Tryz.t402, Tryz.t403, Tryz.t404, Tryz.t405, Tryz.t406, Tryz.t407, Tryz.t408, Tryz.t409, Tryz.t410, Tryz.t411, Tryz.t412, Tryz.t413, Tryz.t414,
  Tryz.t415, Tryz.t416, Tryz.t417, Tryz.t418, Tryz.t419, Tryz.t420, Tryz.t421, Tryz.t422, Tryz.t423, Tryz.t424, Tryz.t425, Tryz.t426, Tryz.t427, Tryz.t428,
  Tryz.t429, Tryz.t430, Tryz.t431, Tryz.t432, Tryz.t433, Tryz.t434, Tryz.t435, Tryz.t436, Tryz.t437, Tryz.t438, Tryz.t439, Tryz.t440, Tryz.t441, Tryz.t442,
  Tryz.t443, Tryz.t444, Tryz.t445, Tryz.t446, Tryz.t447, Tryz.t448, Tryz.t449]
noncomputable def undRows : List TypeDesc := [
  Tryz.t0.desc, Tryz.t1.desc, Tryz.t2.desc, Tryz.t3.desc, Tryz.t4.desc, Tryz.t5.desc, Tryz.t5.desc, Tryz.t7.desc, Tryz.t7.desc, Tryz.t9.desc, Tryz.t9.desc,
  Tryz.t9.desc, Tryz.t12.desc, Tryz.t13.desc, Tryz.t13.desc, Tryz.t15.desc, Tryz.t16.desc, Tryz.t17.desc, Tryz.t18.desc, Tryz.t18.desc, Tryz.t20.desc,
  Tryz.t21.desc, Tryz.t3.desc, Tryz.t23.desc, Tryz.t23.desc, Tryz.t25.desc, Tryz.t26.desc, Tryz.t27.desc, Tryz.t28.desc, Tryz.t29.desc, Tryz.t30.desc,
  Tryz.t31.desc, Tryz.t32.desc, Tryz.t32.desc, Tryz.t34.desc, Tryz.t35.desc, Tryz.t3.desc, Tryz.t37.desc, Tryz.t38.desc, Tryz.t39.desc, Tryz.t40.desc,
  Tryz.t41.desc, Tryz.t42.desc, Tryz.t43.desc, Tryz.t44.desc, Tryz.t45.desc, Tryz.t46.desc, Tryz.t47.desc, Tryz.t48.desc, Tryz.t49.desc, Tryz.t50.desc,
  Tryz.t51.desc, Tryz.t51.desc, Tryz.t53.desc, Tryz.t54.desc, Tryz.t54.desc, Tryz.t56.desc, Tryz.t56.desc, Tryz.t58.desc, Tryz.t59.desc, Tryz.t60.desc,
  Tryz.t61.desc, Tryz.t62.desc, Tryz.t62.desc, Tryz.t64.desc, Tryz.t65.desc, Tryz.t66.desc, Tryz.t67.desc, Tryz.t68.desc, Tryz.t69.desc, Tryz.t70.desc,
  Tryz.t71.desc, Tryz.t72.desc, Tryz.t73.desc, Tryz.t74.desc, Tryz.t75.desc, Tryz.t76.desc, Tryz.t76.desc, Tryz.t78.desc, Tryz.t79.desc, Tryz.t80.desc,
  Tryz.t81.desc, Tryz.t82.desc, Tryz.t83.desc, Tryz.t84.desc, Tryz.t85.desc, Tryz.t86.desc, Tryz.t87.desc, Tryz.t88.desc, Tryz.t89.desc, Tryz.t90.desc,
  Tryz.t91.desc, Tryz.t92.desc, Tryz.t93.desc, Tryz.t94.desc, Tryz.t95.desc, Tryz.t96.desc, Tryz.t97.desc, Tryz.t98.desc, Tryz.t99.desc, Tryz.t100.desc,
  Tryz.t101.desc, Tryz.t102.desc, Tryz.t103.desc, Tryz.t50.desc, Tryz.t105.desc, Tryz.t105.desc, Tryz.t107.desc, Tryz.t108.desc, Tryz.t109.desc, Tryz.t110.desc,
  Tryz.t111.desc, Tryz.t112.desc, Tryz.t113.desc, Tryz.t114.desc, Tryz.t115.desc, Tryz.t116.desc, Tryz.t117.desc, Tryz.t118.desc, Tryz.t119.desc,
  Tryz.t120.desc, Tryz.t121.desc, Tryz.t121.desc, Tryz.t123.desc, Tryz.t123.desc, Tryz.t125.desc, Tryz.t126.desc, Tryz.t127.desc, Tryz.t3.desc, Tryz.t129.desc,
  Tryz.t130.desc, Tryz.t131.desc, Tryz.t132.desc, Tryz.t133.desc, Tryz.t133.desc, Tryz.t135.desc, Tryz.t136.desc, Tryz.t137.desc, Tryz.t138.desc,
  Tryz.t139.desc, Tryz.t139.desc, Tryz.t141.desc, Tryz.t142.desc, Tryz.t143.desc, Tryz.t144.desc, Tryz.t145.desc, Tryz.t146.desc, Tryz.t147.desc,
  Tryz.t148.desc, Tryz.t149.desc, Tryz.t150.desc, Tryz.t151.desc, Tryz.t152.desc, Tryz.t153.desc, Tryz.t154.desc, Tryz.t155.desc, Tryz.t156.desc,
  Tryz.t157.desc, Tryz.t158.desc, Tryz.t159.desc, Tryz.t160.desc, Tryz.t161.desc, Tryz.t162.desc, Tryz.t163.desc, Tryz.t164.desc, Tryz.t165.desc,
  Tryz.t166.desc, Tryz.t167.desc, Tryz.t168.desc, Tryz.t169.desc, Tryz.t170.desc, Tryz.t171.desc, Tryz.t172.desc, Tryz.t173.desc, Tryz.t174.desc,
  Tryz.t175.desc, Tryz.t176.desc, Tryz.t177.desc, Tryz.t177.desc, Tryz.t3.desc, Tryz.t180.desc, Tryz.t180.desc, Tryz.t182.desc, Tryz.t183.desc, Tryz.t184.desc,
  Tryz.t185.desc, Tryz.t186.desc, Tryz.t187.desc, Tryz.t188.desc, Tryz.t189.desc, Tryz.t190.desc, Tryz.t191.desc, Tryz.t192.desc, Tryz.t193.desc,
  Tryz.t194.desc, Tryz.t195.desc, Tryz.t196.desc, Tryz.t197.desc, Tryz.t198.desc, Tryz.t198.desc, Tryz.t200.desc, Tryz.t201.desc, Tryz.t201.desc,
  Tryz.t203.desc, Tryz.t204.desc, Tryz.t205.desc, Tryz.t206.desc, Tryz.t207.desc, Tryz.t208.desc, Tryz.t209.desc, Tryz.t210.desc, Tryz.t211.desc,
  Tryz.t212.desc, Tryz.t213.desc, Tryz.t214.desc, Tryz.t215.desc, Tryz.t216.desc, Tryz.t217.desc, Tryz.t218.desc, Tryz.t219.desc, Tryz.t220.desc, Tryz.t3.desc,
  Tryz.t3.desc, Tryz.t223.desc, Tryz.t224.desc, Tryz.t224.desc, Tryz.t226.desc, Tryz.t227.desc, Tryz.t228.desc, Tryz.t229.desc, Tryz.t230.desc, Tryz.t231.desc,
  Tryz.t232.desc, Tryz.t233.desc, Tryz.t233.desc, Tryz.t235.desc, Tryz.t236.desc, Tryz.t237.desc, Tryz.t237.desc, Tryz.t239.desc, Tryz.t240.desc,
  Tryz.t241.desc, Tryz.t241.desc, Tryz.t243.desc, Tryz.t244.desc, Tryz.t245.desc, Tryz.t245.desc, Tryz.t247.desc, Tryz.t248.desc, Tryz.t249.desc,
  Tryz.t250.desc, Tryz.t251.desc, Tryz.t252.desc, Tryz.t252.desc, Tryz.t254.desc, Tryz.t255.desc, Tryz.t256.desc, Tryz.t257.desc, Tryz.t258.desc,
  Tryz.t259.desc, Tryz.t259.desc, Tryz.t261.desc, Tryz.t262.desc, Tryz.t263.desc, Tryz.t264.desc, Tryz.t265.desc, Tryz.t265.desc, Tryz.t267.desc,
  Tryz.t268.desc, Tryz.t269.desc, Tryz.t270.desc, Tryz.t271.desc, Tryz.t271.desc, Tryz.t273.desc, Tryz.t273.desc, Tryz.t275.desc, Tryz.t276.desc,
  Tryz.t277.desc, Tryz.t278.desc, Tryz.t279.desc, Tryz.t279.desc, Tryz.t281.desc, Tryz.t282.desc, Tryz.t283.desc, Tryz.t284.desc, Tryz.t285.desc,
  Tryz.t286.desc, Tryz.t287.desc, Tryz.t53.desc, Tryz.t289.desc, Tryz.t289.desc, Tryz.t291.desc, Tryz.t292.desc, Tryz.t293.desc, Tryz.t294.desc, Tryz.t295.desc,
  Tryz.t296.desc, Tryz.t297.desc, Tryz.t298.desc, Tryz.t299.desc, Tryz.t300.desc, Tryz.t301.desc, Tryz.t302.desc, Tryz.t303.desc, Tryz.t304.desc,
  Tryz.t305.desc, Tryz.t306.desc, Tryz.t307.desc, Tryz.t307.desc, Tryz.t309.desc, Tryz.t310.desc, Tryz.t311.desc, Tryz.t312.desc, Tryz.t313.desc,
  Tryz.t314.desc, Tryz.t315.desc, Tryz.t316.desc, Tryz.t317.desc, Tryz.t318.desc, Tryz.t319.desc, Tryz.t320.desc, Tryz.t320.desc, Tryz.t322.desc,
  Tryz.t323.desc, Tryz.t324.desc, Tryz.t324.desc, Tryz.t326.desc, Tryz.t327.desc, Tryz.t328.desc, Tryz.t329.desc, Tryz.t330.desc, Tryz.t331.desc,
  Tryz.t332.desc, Tryz.t332.desc, Tryz.t334.desc, Tryz.t335.desc, Tryz.t336.desc, Tryz.t337.desc, Tryz.t338.desc, Tryz.t339.desc, Tryz.t340.desc,
  Tryz.t341.desc, Tryz.t342.desc, Tryz.t343.desc, Tryz.t343.desc, Tryz.t345.desc, Tryz.t346.desc, Tryz.t347.desc, Tryz.t348.desc, Tryz.t349.desc,
  Tryz.t350.desc, Tryz.t351.desc, Tryz.t252.desc, Tryz.t353.desc, Tryz.t354.desc, Tryz.t355.desc, Tryz.t356.desc, Tryz.t357.desc, Tryz.t358.desc,
  Tryz.t358.desc, Tryz.t360.desc, Tryz.t361.desc, Tryz.t362.desc, Tryz.t363.desc, Tryz.t364.desc, Tryz.t365.desc, Tryz.t366.desc, Tryz.t367.desc,
  Tryz.t368.desc, Tryz.t369.desc, Tryz.t370.desc, Tryz.t371.desc, Tryz.t371.desc, Tryz.t373.desc, Tryz.t374.desc, Tryz.t375.desc, Tryz.t376.desc,
  Tryz.t377.desc, Tryz.t377.desc, Tryz.t379.desc, Tryz.t380.desc, Tryz.t273.desc, Tryz.t382.desc, Tryz.t383.desc, Tryz.t384.desc, Tryz.t385.desc,
  Tryz.t386.desc, Tryz.t387.desc, Tryz.t388.desc, Tryz.t388.desc, Tryz.t390.desc, Tryz.t390.desc, Tryz.t392.desc, Tryz.t393.desc, Tryz.t394.desc,
  Tryz.t394.desc, Tryz.t396.desc, Tryz.t397.desc, Tryz.t398.desc, Tryz.t399.desc, Tryz.t400.desc, Tryz.t401.desc, Tryz.t402.desc, Tryz.t403.desc,
  Tryz.t404.desc, Tryz.t405.desc, Tryz.t406.desc, Tryz.t402.desc, Tryz.t408.desc, Tryz.t408.desc, Tryz.t410.desc, Tryz.t410.desc, Tryz.t412.desc,
  Tryz.t413.desc, Tryz.t414.desc, Tryz.t415.desc, Tryz.t416.desc, Tryz.t416.desc, Tryz.t418.desc, Tryz.t419.desc, Tryz.t419.desc, Tryz.t421.desc,
  Tryz.t422.desc, Tryz.t423.desc, Tryz.t424.desc, Tryz.t425.desc, Tryz.t426.desc, Tryz.t427.desc, Tryz.t428.desc, Tryz.t429.desc, Tryz.t430.desc,
  Tryz.t431.desc, Tryz.t432.desc, Tryz.t433.desc, Tryz.t434.desc, Tryz.t435.desc, Tryz.t435.desc, Tryz.t437.desc, Tryz.t438.desc, Tryz.t438.desc, Tryz.t5.desc,
  Tryz.t5.desc, Tryz.t442.desc, Tryz.t443.desc, Tryz.t21.desc, Tryz.t21.desc, Tryz.t446.desc, Tryz.t446.desc, Tryz.t448.desc, Tryz.t449.desc]
noncomputable def funcRows : List Func := [
  Tryz.f0, Tryz.f1, Tryz.f2, Tryz.f3, Tryz.f4, Tryz.f5, Tryz.f6, Tryz.f7, Tryz.f8, Tryz.f9, Tryz.f10, Tryz.f11, Tryz.f12, Tryz.f13, Tryz.f14, Tryz.f15, Tryz.f16,
  Tryz.f17, Tryz.f18, Tryz.f19, Tryz.f20, Tryz.f21, Tryz.f22, Tryz.f23, Tryz.f24, Tryz.f25, Tryz.f26, Tryz.f27, Tryz.f28, Tryz.f29, Tryz.f30, Tryz.f31,
  Tryz.f32, Tryz.f33, Tryz.f34, Tryz.f35, Tryz.f36, Tryz.f37, Tryz.f38, Tryz.f39, Tryz.f40, Tryz.f41, Tryz.f42, Tryz.f43, Tryz.f44, Tryz.f45, Tryz.f46,
  Tryz.f47, Tryz.f48, Tryz.f49, Tryz.f50, Tryz.f51, Tryz.f52, Tryz.f53, Tryz.f54, Tryz.f55, Tryz.f56, Tryz.f57, Tryz.f58, Tryz.f59, Tryz.f60, Tryz.f61,
  Tryz.f62, Tryz.f63, Tryz.f64, Tryz.f65, Tryz.f66, Tryz.f67, Tryz.f68, Tryz.f69, Tryz.f70, Tryz.f71, Tryz.f72, Tryz.f73, Tryz.f74, Tryz.f75, Tryz.f76,
  Tryz.f77, Tryz.f78, Tryz.f79, Tryz.f80, Tryz.f81, Tryz.f82, Tryz.f83, Tryz.f84, Tryz.f85, Tryz.f86, Tryz.f87, Tryz.f88, Tryz.f89, Tryz.f90, Tryz.f91,
  Tryz.f92, Tryz.f93, Tryz.f94, Tryz.f95, Tryz.f96, Tryz.f97, Tryz.f98, Tryz.f99, Tryz.f100, Tryz.f101, Tryz.f102, Tryz.f103, Tryz.f104, Tryz.f105, Tryz.f106,
  Tryz.f107, Tryz.f108, Tryz.f109, Tryz.f110, Tryz.f111, Tryz.f112, Tryz.f113, Tryz.f114, Tryz.f115, Tryz.f116, Tryz.f117, Tryz.f118, Tryz.f119, Tryz.f120,
  Tryz.f121, Tryz.f122, Tryz.f123, Tryz.f124, Tryz.f125, Tryz.f126, Tryz.f127, Tryz.f128, Tryz.f129, Tryz.f130, Tryz.f131, Tryz.f132, Tryz.f133, Tryz.f134,
  Tryz.f135, Tryz.f136, Tryz.f137, Tryz.f138, Tryz.f139, Tryz.f140, Tryz.f141, Tryz.f142, Tryz.f143, Tryz.f144, Tryz.f145, Tryz.f146, Tryz.f147, Tryz.f148,
  Tryz.f149, Tryz.f150, Tryz.f151, Tryz.f152, Tryz.f153, Tryz.f154, Tryz.f155, Tryz.f156, Tryz.f157, Tryz.f158, Tryz.f159, Tryz.f160, Tryz.f161, Tryz.f162,
  Tryz.f163, Tryz.f164, Tryz.f165, Tryz.f166, Tryz.f167, Tryz.f168, Tryz.f169, Tryz.f170, Tryz.f171, Tryz.f172, Tryz.f173, Tryz.f174, Tryz.f175, Tryz.f176,
  Tryz.f177, Tryz.f178, Tryz.f179, Tryz.f180, Tryz.f181, Tryz.f182, Tryz.f183, Tryz.f184, Tryz.f185, Tryz.f186, Tryz.f187, Tryz.f188, Tryz.f189, Tryz.f190,
  Tryz.f191, Tryz.f192, Tryz.f193, Tryz.f194, Tryz.f195, Tryz.f196, Tryz.f197, Tryz.f198, Tryz.f199, Tryz.f200, Tryz.f201, Tryz.f202, Tryz.f203, Tryz.f204,
  Tryz.f205, Tryz.f206, Tryz.f207, Tryz.f208, Tryz.f209, Tryz.f210, Tryz.f211, Tryz.f212, Tryz.f213, Tryz.f214, Tryz.f215, Tryz.f216, Tryz.f217, Tryz.f218,
  Tryz.f219, Tryz.f220, Tryz.f221, Tryz.f222, Tryz.f223, Tryz.f224, Tryz.f225, Tryz.f226, Tryz.f227, Tryz.f228, Tryz.f229, Tryz.f230, Tryz.f231, Tryz.f232,
  Tryz.f233, Tryz.f234, Tryz.f235, Tryz.f236, Tryz.f237, Tryz.f238, Tryz.f239, Tryz.f240, Tryz.f241, Tryz.f242, Tryz.f243, Tryz.f244, Tryz.f245, Tryz.f246,
  Tryz.f247, Tryz.f248, Tryz.f249, Tryz.f250, Tryz.f251, Tryz.f252, Tryz.f253, Tryz.f254, Tryz.f255, Tryz.f256, Tryz.f257, Tryz.f258, Tryz.f259, Tryz.f260,
  Tryz.f261, Tryz.f262, Tryz.f263, Tryz.f264, Tryz.f265, Tryz.f266, Tryz.f267, Tryz.f268, Tryz.f269, Tryz.f270, Tryz.f271, Tryz.f272, Tryz.f273, Tryz.f274,
  Tryz.f275, Tryz.f276, Tryz.f277, Tryz.f278, Tryz.f279, Tryz.f280, Tryz.f281, Tryz.f282, Tryz.f283, Tryz.f284, Tryz.f285, Tryz.f286, Tryz.f287, Tryz.f288,
  Tryz.f289, Tryz.f290, Tryz.f291, Tryz.f292, Tryz.f293, Tryz.f294, Tryz.f295, Tryz.f296, Tryz.f297, Tryz.f298, Tryz.f299, Tryz.f300, Tryz.f301, Tryz.f302,
  Tryz.f303, Tryz.f304, Tryz.f305, Tryz.f306, Tryz.f307, Tryz.f308, Tryz.f309, Tryz.f310, Tryz.f311, Tryz.f312, Tryz.f313, Tryz.f314, Tryz.f315, Tryz.f316,
  Tryz.f317, Tryz.f318, Tryz.f319, Tryz.f320, Tryz.f321, Tryz.f322, Tryz.f323, Tryz.f324, Tryz.f325, Tryz.f326, Tryz.f327, Tryz.f328, Tryz.f329, Tryz.f330,
  Tryz.f331, Tryz.f332, Tryz.f333, Tryz.f334, Tryz.f335, Tryz.f336, Tryz.f337, Tryz.f338, Tryz.f339, Tryz.f340, Tryz.f341, Tryz.f342, Tryz.f343, Tryz.f344,
  Tryz.f345, Tryz.f346, Tryz.f347, Tryz.f348, Tryz.f349, Tryz.f350, Tryz.f351, Tryz.f352, Tryz.f353, Tryz.f354, Tryz.f355, Tryz.f356, Tryz.f357, Tryz.f358,
  Tryz.f359, Tryz.f360]
noncomputable def infoT : T TypeInfo :=
  (.node (some Tryz.t0) (.node (some Tryz.t1) (.node (some Tryz.t3) (.node (some Tryz.t7) (.node (some Tryz.t15) (.node (some Tryz.t31) (.node (some Tryz.t63)
  (.node (some Tryz.t127) (.node (some Tryz.t255) .leaf .leaf) (.node (some Tryz.t383) .leaf .leaf)) (.node (some Tryz.t191) (.node (some Tryz.t319) .leaf
  .leaf) (.node (some Tryz.t447) .leaf .leaf))) (.node (some Tryz.t95) (.node (some Tryz.t159) (.node (some Tryz.t287) .leaf .leaf) (.node (some Tryz.t415)
  .leaf .leaf)) (.node (some Tryz.t223) (.node (some Tryz.t351) .leaf .leaf) .leaf))) (.node (some Tryz.t47) (.node (some Tryz.t79) (.node (some Tryz.t143)
  (.node (some Tryz.t271) .leaf .leaf) (.node (some Tryz.t399) .leaf .leaf)) (.node (some Tryz.t207) (.node (some Tryz.t335) .leaf .leaf) .leaf)) (.node (some
  Tryz.t111) (.node (some Tryz.t175) (.node (some Tryz.t303) .leaf .leaf) (.node (some Tryz.t431) .leaf .leaf)) (.node (some Tryz.t239) (.node (some Tryz.t367)
  .leaf .leaf) .leaf)))) (.node (some Tryz.t23) (.node (some Tryz.t39) (.node (some Tryz.t71) (.node (some Tryz.t135) (.node (some Tryz.t263) .leaf .leaf)
  (.node (some Tryz.t391) .leaf .leaf)) (.node (some Tryz.t199) (.node (some Tryz.t327) .leaf .leaf) .leaf)) (.node (some Tryz.t103) (.node (some Tryz.t167)
  (.node (some Tryz.t295) .leaf .leaf) (.node (some Tryz.t423) .leaf .leaf)) (.node (some Tryz.t231) (.node (some Tryz.t359) .leaf .leaf) .leaf))) (.node (some
  Tryz.t55) (.node (some Tryz.t87) (.node (some Tryz.t151) (.node (some Tryz.t279) .leaf .leaf) (.node (some Tryz.t407) .leaf .leaf)) (.node (some Tryz.t215)
  (.node (some Tryz.t343) .leaf .leaf) .leaf)) (.node (some Tryz.t119) (.node (some Tryz.t183) (.node (some Tryz.t311) .leaf .leaf) (.node (some Tryz.t439)
  .leaf .leaf)) (.node (some Tryz.t247) (.node (some Tryz.t375) .leaf .leaf) .leaf))))) (.node (some Tryz.t11) (.node (some Tryz.t19) (.node (some Tryz.t35)
  (.node (some Tryz.t67) (.node (some Tryz.t131) (.node (some Tryz.t259) .leaf .leaf) (.node (some Tryz.t387) .leaf .leaf)) (.node (some Tryz.t195) (.node (some
  Tryz.t323) .leaf .leaf) .leaf)) (.node (some Tryz.t99) (.node (some Tryz.t163) (.node (some Tryz.t291) .leaf .leaf) (.node (some Tryz.t419) .leaf .leaf))
  (.node (some Tryz.t227) (.node (some Tryz.t355) .leaf .leaf) .leaf))) (.node (some Tryz.t51) (.node (some Tryz.t83) (.node (some Tryz.t147) (.node (some
  Tryz.t275) .leaf .leaf) (.node (some Tryz.t403) .leaf .leaf)) (.node (some Tryz.t211) (.node (some Tryz.t339) .leaf .leaf) .leaf)) (.node (some Tryz.t115)
  (.node (some Tryz.t179) (.node (some Tryz.t307) .leaf .leaf) (.node (some Tryz.t435) .leaf .leaf)) (.node (some Tryz.t243) (.node (some Tryz.t371) .leaf
  .leaf) .leaf)))) (.node (some Tryz.t27) (.node (some Tryz.t43) (.node (some Tryz.t75) (.node (some Tryz.t139) (.node (some Tryz.t267) .leaf .leaf) (.node
  (some Tryz.t395) .leaf .leaf)) (.node (some Tryz.t203) (.node (some Tryz.t331) .leaf .leaf) .leaf)) (.node (some Tryz.t107) (.node (some Tryz.t171) (.node
  (some Tryz.t299) .leaf .leaf) (.node (some Tryz.t427) .leaf .leaf)) (.node (some Tryz.t235) (.node (some Tryz.t363) .leaf .leaf) .leaf))) (.node (some
  Tryz.t59) (.node (some Tryz.t91) (.node (some Tryz.t155) (.node (some Tryz.t283) .leaf .leaf) (.node (some Tryz.t411) .leaf .leaf)) (.node (some Tryz.t219)
  (.node (some Tryz.t347) .leaf .leaf) .leaf)) (.node (some Tryz.t123) (.node (some Tryz.t187) (.node (some Tryz.t315) .leaf .leaf) (.node (some Tryz.t443)
  .leaf .leaf)) (.node (some Tryz.t251) (.node (some Tryz.t379) .leaf .leaf) .leaf)))))) (.node (some Tryz.t5) (.node (some Tryz.t9) (.node (some Tryz.t17)
  (.node (some Tryz.t33) (.node (some Tryz.t65) (.node (some Tryz.t129) (.node (some Tryz.t257) .leaf .leaf) (.node (some Tryz.t385) .leaf .leaf)) (.node (some
  Tryz.t193) (.node (some Tryz.t321) .leaf .leaf) (.node (some Tryz.t449) .leaf .leaf))) (.node (some Tryz.t97) (.node (some Tryz.t161) (.node (some Tryz.t289)
  .leaf .leaf) (.node (some Tryz.t417) .leaf .leaf)) (.node (some Tryz.t225) (.node (some Tryz.t353) .leaf .leaf) .leaf))) (.node (some Tryz.t49) (.node (some
  Tryz.t81) (.node (some Tryz.t145) (.node (some Tryz.t273) .leaf .leaf) (.node (some Tryz.t401) .leaf .leaf)) (.node (some Tryz.t209) (.node (some Tryz.t337)
  .leaf .leaf) .leaf)) (.node (some Tryz.t113) (.node (some Tryz.t177) (.node (some Tryz.t305) .leaf .leaf) (.node (some Tryz.t433) .leaf .leaf)) (.node (some
  Tryz.t241) (.node (some Tryz.t369) .leaf .leaf) .leaf)))) (.node (some Tryz.t25) (.node (some Tryz.t41) (.node (some Tryz.t73) (.node (some Tryz.t137) (.node
  (some Tryz.t265) .leaf .leaf) (.node (some Tryz.t393) .leaf .leaf)) (.node (some Tryz.t201) (.node (some Tryz.t329) .leaf .leaf) .leaf)) (.node (some
  Tryz.t105) (.node (some Tryz.t169) (.node (some Tryz.t297) .leaf .leaf) (.node (some Tryz.t425) .leaf .leaf)) (.node (some Tryz.t233) (.node (some Tryz.t361)
  .leaf .leaf) .leaf))) (.node (some Tryz.t57) (.node (some Tryz.t89) (.node (some Tryz.t153) (.node (some Tryz.t281) .leaf .leaf) (.node (some Tryz.t409) .leaf
  .leaf)) (.node (some Tryz.t217) (.node (some Tryz.t345) .leaf .leaf) .leaf)) (.node (some Tryz.t121) (.node (some Tryz.t185) (.node (some Tryz.t313) .leaf
  .leaf) (.node (some Tryz.t441) .leaf .leaf)) (.node (some Tryz.t249) (.node (some Tryz.t377) .leaf .leaf) .leaf))))) (.node (some Tryz.t13) (.node (some
  Tryz.t21) (.node (some Tryz.t37) (.node (some Tryz.t69) (.node (some Tryz.t133) (.node (some Tryz.t261) .leaf .leaf) (.node (some Tryz.t389) .leaf .leaf))
  (.node (some Tryz.t197) (.node (some Tryz.t325) .leaf .leaf) .leaf)) (.node (some Tryz.t101) (.node (some Tryz.t165) (.node (some Tryz.t293) .leaf .leaf)
  (.node (some Tryz.t421) .leaf .leaf)) (.node (some Tryz.t229) (.node (some Tryz.t357) .leaf .leaf) .leaf))) (.node (some Tryz.t53) (.node (some Tryz.t85)
  (.node (some Tryz.t149) (.node (some Tryz.t277) .leaf .leaf) (.node (some Tryz.t405) .leaf .leaf)) (.node (some Tryz.t213) (.node (some Tryz.t341) .leaf
  .leaf) .leaf)) (.node (some Tryz.t117) (.node (some Tryz.t181) (.node (some Tryz.t309) .leaf .leaf) (.node (some Tryz.t437) .leaf .leaf)) (.node (some
  Tryz.t245) (.node (some Tryz.t373) .leaf .leaf) .leaf)))) (.node (some Tryz.t29) (.node (some Tryz.t45) (.node (some Tryz.t77) (.node (some Tryz.t141) (.node
  (some Tryz.t269) .leaf .leaf) (.node (some Tryz.t397) .leaf .leaf)) (.node (some Tryz.t205) (.node (some Tryz.t333) .leaf .leaf) .leaf)) (.node (some
  Tryz.t109) (.node (some Tryz.t173) (.node (some Tryz.t301) .leaf .leaf) (.node (some Tryz.t429) .leaf .leaf)) (.node (some Tryz.t237) (.node (some Tryz.t365)
  .leaf .leaf) .leaf))) (.node (some Tryz.t61) (.node (some Tryz.t93) (.node (some Tryz.t157) (.node (some Tryz.t285) .leaf .leaf) (.node (some Tryz.t413) .leaf
  .leaf)) (.node (some Tryz.t221) (.node (some Tryz.t349) .leaf .leaf) .leaf)) (.node (some Tryz.t125) (.node (some Tryz.t189) (.node (some Tryz.t317) .leaf
  .leaf) (.node (some Tryz.t445) .leaf .leaf)) (.node (some Tryz.t253) (.node (some Tryz.t381) .leaf .leaf) .leaf))))))) (.node (some Tryz.t2) (.node (some
  Tryz.t4) (.node (some Tryz.t8) (.node (some Tryz.t16) (.node (some Tryz.t32) (.node (some Tryz.t64) (.node (some Tryz.t128) (.node (some Tryz.t256) .leaf
  .leaf) (.node (some Tryz.t384) .leaf .leaf)) (.node (some Tryz.t192) (.node (some Tryz.t320) .leaf .leaf) (.node (some Tryz.t448) .leaf .leaf))) (.node (some
  Tryz.t96) (.node (some Tryz.t160) (.node (some Tryz.t288) .leaf .leaf) (.node (some Tryz.t416) .leaf .leaf)) (.node (some Tryz.t224) (.node (some Tryz.t352)
  .leaf .leaf) .leaf))) (.node (some Tryz.t48) (.node (some Tryz.t80) (.node (some Tryz.t144) (.node (some Tryz.t272) .leaf .leaf) (.node (some Tryz.t400) .leaf
  .leaf)) (.node (some Tryz.t208) (.node (some Tryz.t336) .leaf .leaf) .leaf)) (.node (some Tryz.t112) (.node (some Tryz.t176) (.node (some Tryz.t304) .leaf
  .leaf) (.node (some Tryz.t432) .leaf .leaf)) (.node (some Tryz.t240) (.node (some Tryz.t368) .leaf .leaf) .leaf)))) (.node (some Tryz.t24) (.node (some
  Tryz.t40) (.node (some Tryz.t72) (.node (some Tryz.t136) (.node (some Tryz.t264) .leaf .leaf) (.node (some Tryz.t392) .leaf .leaf)) (.node (some Tryz.t200)
  (.node (some Tryz.t328) .leaf .leaf) .leaf)) (.node (some Tryz.t104) (.node (some Tryz.t168) (.node (some Tryz.t296) .leaf .leaf) (.node (some Tryz.t424)
  .leaf .leaf)) (.node (some Tryz.t232) (.node (some Tryz.t360) .leaf .leaf) .leaf))) (.node (some Tryz.t56) (.node (some Tryz.t88) (.node (some Tryz.t152)
  (.node (some Tryz.t280) .leaf .leaf) (.node (some Tryz.t408) .leaf .leaf)) (.node (some Tryz.t216) (.node (some Tryz.t344) .leaf .leaf) .leaf)) (.node (some
  Tryz.t120) (.node (some Tryz.t184) (.node (some Tryz.t312) .leaf .leaf) (.node (some Tryz.t440) .leaf .leaf)) (.node (some Tryz.t248) (.node (some Tryz.t376)
  .leaf .leaf) .leaf))))) (.node (some Tryz.t12) (.node (some Tryz.t20) (.node (some Tryz.t36) (.node (some Tryz.t68) (.node (some Tryz.t132) (.node (some
  Tryz.t260) .leaf .leaf) (.node (some Tryz.t388) .leaf .leaf)) (.node (some Tryz.t196) (.node (some Tryz.t324) .leaf .leaf) .leaf)) (.node (some Tryz.t100)
  (.node (some Tryz.t164) (.node (some Tryz.t292) .leaf .leaf) (.node (some Tryz.t420) .leaf .leaf)) (.node (some Tryz.t228) (.node (some Tryz.t356) .leaf
  .leaf) .leaf))) (.node (some Tryz.t52) (.node (some Tryz.t84) (.node (some Tryz.t148) (.node (some Tryz.t276) .leaf .leaf) (.node (some Tryz.t404) .leaf
  .leaf)) (.node (some Tryz.t212) (.node (some Tryz.t340) .leaf .leaf) .leaf)) (.node (some Tryz.t116) (.node (some Tryz.t180) (.node (some Tryz.t308) .leaf
  .leaf) (.node (some Tryz.t436) .leaf .leaf)) (.node (some Tryz.t244) (.node (some Tryz.t372) .leaf .leaf) .leaf)))) (.node (some Tryz.t28) (.node (some
  Tryz.t44) (.node (some Tryz.t76) (.node (some Tryz.t140) (.node (some Tryz.t268) .leaf .leaf) (.node (some Tryz.t396) .leaf .leaf)) (.node (some Tryz.t204)
  (.node (some Tryz.t332) .leaf .leaf) .leaf)) (.node (some Tryz.t108) (.node (some Tryz.t172) (.node (some Tryz.t300) .leaf .leaf) (.node (some Tryz.t428)
  .leaf .leaf)) (.node (some Tryz.t236) (.node (some Tryz.t364) .leaf .leaf) .leaf))) (.node (some Tryz.t60) (.node (some Tryz.t92) (.node (some Tryz.t156)
  (.node (some Tryz.t284) .leaf .leaf) (.node (some Tryz.t412) .leaf .leaf)) (.node (some Tryz.t220) (.node (some Tryz.t348) .leaf .leaf) .leaf)) (.node (some
  Tryz.t124) (.node (some Tryz.t188) (.node (some Tryz.t316) .leaf .leaf) (.node (some Tryz.t444) .leaf .leaf)) (.node (some Tryz.t252) (.node (some Tryz.t380)
  .leaf .leaf) .leaf)))))) (.node (some Tryz.t6) (.node (some Tryz.t10) (.node (some Tryz.t18) (.node (some Tryz.t34) (.node (some Tryz.t66) (.node (some
  Tryz.t130) (.node (some Tryz.t258) .leaf .leaf) (.node (some Tryz.t386) .leaf .leaf)) (.node (some Tryz.t194) (.node (some Tryz.t322) .leaf .leaf) .leaf))
  (.node (some Tryz.t98) (.node (some Tryz.t162) (.node (some Tryz.t290) .leaf .leaf) (.node (some Tryz.t418) .leaf .leaf)) (.node (some Tryz.t226) (.node (some
  Tryz.t354) .leaf .leaf) .leaf))) (.node (some Tryz.t50) (.node (some Tryz.t82) (.node (some Tryz.t146) (.node (some Tryz.t274) .leaf .leaf) (.node (some
  Tryz.t402) .leaf .leaf)) (.node (some Tryz.t210) (.node (some Tryz.t338) .leaf .leaf) .leaf)) (.node (some Tryz.t114) (.node (some Tryz.t178) (.node (some
  Tryz.t306) .leaf .leaf) (.node (some Tryz.t434) .leaf .leaf)) (.node (some Tryz.t242) (.node (some Tryz.t370) .leaf .leaf) .leaf)))) (.node (some Tryz.t26)
  (.node (some Tryz.t42) (.node (some Tryz.t74) (.node (some Tryz.t138) (.node (some Tryz.t266) .leaf .leaf) (.node (some Tryz.t394) .leaf .leaf)) (.node (some
  Tryz.t202) (.node (some Tryz.t330) .leaf .leaf) .leaf)) (.node (some Tryz.t106) (.node (some Tryz.t170) (.node (some Tryz.t298) .leaf .leaf) (.node (some
  Tryz.t426) .leaf .leaf)) (.node (some Tryz.t234) (.node (some Tryz.t362) .leaf .leaf) .leaf))) (.node (some Tryz.t58) (.node (some Tryz.t90) (.node (some
  Tryz.t154) (.node (some Tryz.t282) .leaf .leaf) (.node (some Tryz.t410) .leaf .leaf)) (.node (some Tryz.t218) (.node (some Tryz.t346) .leaf .leaf) .leaf))
  (.node (some Tryz.t122) (.node (some Tryz.t186) (.node (some Tryz.t314) .leaf .leaf) (.node (some Tryz.t442) .leaf .leaf)) (.node (some Tryz.t250) (.node
  (some Tryz.t378) .leaf .leaf) .leaf))))) (.node (some Tryz.t14) (.node (some Tryz.t22) (.node (some Tryz.t38) (.node (some Tryz.t70) (.node (some Tryz.t134)
  (.node (some Tryz.t262) .leaf .leaf) (.node (some Tryz.t390) .leaf .leaf)) (.node (some Tryz.t198) (.node (some Tryz.t326) .leaf .leaf) .leaf)) (.node (some
  Tryz.t102) (.node (some Tryz.t166) (.node (some Tryz.t294) .leaf .leaf) (.node (some Tryz.t422) .leaf .leaf)) (.node (some Tryz.t230) (.node (some Tryz.t358)
  .leaf .leaf) .leaf))) (.node (some Tryz.t54) (.node (some Tryz.t86) (.node (some Tryz.t150) (.node (some Tryz.t278) .leaf .leaf) (.node (some Tryz.t406) .leaf
  .leaf)) (.node (some Tryz.t214) (.node (some Tryz.t342) .leaf .leaf) .leaf)) (.node (some Tryz.t118) (.node (some Tryz.t182) (.node (some Tryz.t310) .leaf
  .leaf) (.node (some Tryz.t438) .leaf .leaf)) (.node (some Tryz.t246) (.node (some Tryz.t374) .leaf .leaf) .leaf)))) (.node (some Tryz.t30) (.node (some
  Tryz.t46) (.node (some Tryz.t78) (.node (some Tryz.t142) (.node (some Tryz.t270) .leaf .leaf) (.node (some Tryz.t398) .leaf .leaf)) (.node (some Tryz.t206)
  (.node (some Tryz.t334) .leaf .leaf) .leaf)) (.node (some Tryz.t110) (.node (some Tryz.t174) (.node (some Tryz.t302) .leaf .leaf) (.node (some Tryz.t430)
  .leaf .leaf)) (.node (some Tryz.t238) (.node (some Tryz.t366) .leaf .leaf) .leaf))) (.node (some Tryz.t62) (.node (some Tryz.t94) (.node (some Tryz.t158)
  (.node (some Tryz.t286) .leaf .leaf) (.node (some Tryz.t414) .leaf .leaf)) (.node (some Tryz.t222) (.node (some Tryz.t350) .leaf .leaf) .leaf)) (.node (some
  Tryz.t126) (.node (some Tryz.t190) (.node (some Tryz.t318) .leaf .leaf) (.node (some Tryz.t446) .leaf .leaf)) (.node (some Tryz.t254) (.node (some Tryz.t382)
  .leaf .leaf) .leaf))))))))
noncomputable def undT : T TypeDesc :=
  (.node (some Tryz.t0.desc) (.node (some Tryz.t1.desc) (.node (some Tryz.t3.desc) (.node (some Tryz.t7.desc) (.node (some Tryz.t15.desc) (.node (some
  Tryz.t31.desc) (.node (some Tryz.t62.desc) (.node (some Tryz.t127.desc) (.node (some Tryz.t255.desc) .leaf .leaf) (.node (some Tryz.t383.desc) .leaf .leaf))
  (.node (some Tryz.t191.desc) (.node (some Tryz.t319.desc) .leaf .leaf) (.node (some Tryz.t446.desc) .leaf .leaf))) (.node (some Tryz.t95.desc) (.node (some
  Tryz.t159.desc) (.node (some Tryz.t287.desc) .leaf .leaf) (.node (some Tryz.t415.desc) .leaf .leaf)) (.node (some Tryz.t223.desc) (.node (some Tryz.t351.desc)
  .leaf .leaf) .leaf))) (.node (some Tryz.t47.desc) (.node (some Tryz.t79.desc) (.node (some Tryz.t143.desc) (.node (some Tryz.t271.desc) .leaf .leaf) (.node
  (some Tryz.t399.desc) .leaf .leaf)) (.node (some Tryz.t207.desc) (.node (some Tryz.t335.desc) .leaf .leaf) .leaf)) (.node (some Tryz.t111.desc) (.node (some
  Tryz.t175.desc) (.node (some Tryz.t303.desc) .leaf .leaf) (.node (some Tryz.t431.desc) .leaf .leaf)) (.node (some Tryz.t239.desc) (.node (some Tryz.t367.desc)
  .leaf .leaf) .leaf)))) (.node (some Tryz.t23.desc) (.node (some Tryz.t39.desc) (.node (some Tryz.t71.desc) (.node (some Tryz.t135.desc) (.node (some
  Tryz.t263.desc) .leaf .leaf) (.node (some Tryz.t390.desc) .leaf .leaf)) (.node (some Tryz.t198.desc) (.node (some Tryz.t327.desc) .leaf .leaf) .leaf)) (.node
  (some Tryz.t103.desc) (.node (some Tryz.t167.desc) (.node (some Tryz.t295.desc) .leaf .leaf) (.node (some Tryz.t423.desc) .leaf .leaf)) (.node (some
  Tryz.t231.desc) (.node (some Tryz.t358.desc) .leaf .leaf) .leaf))) (.node (some Tryz.t54.desc) (.node (some Tryz.t87.desc) (.node (some Tryz.t151.desc) (.node
  (some Tryz.t279.desc) .leaf .leaf) (.node (some Tryz.t402.desc) .leaf .leaf)) (.node (some Tryz.t215.desc) (.node (some Tryz.t343.desc) .leaf .leaf) .leaf))
  (.node (some Tryz.t119.desc) (.node (some Tryz.t183.desc) (.node (some Tryz.t311.desc) .leaf .leaf) (.node (some Tryz.t438.desc) .leaf .leaf)) (.node (some
  Tryz.t247.desc) (.node (some Tryz.t375.desc) .leaf .leaf) .leaf))))) (.node (some Tryz.t9.desc) (.node (some Tryz.t18.desc) (.node (some Tryz.t35.desc) (.node
  (some Tryz.t67.desc) (.node (some Tryz.t131.desc) (.node (some Tryz.t259.desc) .leaf .leaf) (.node (some Tryz.t387.desc) .leaf .leaf)) (.node (some
  Tryz.t195.desc) (.node (some Tryz.t323.desc) .leaf .leaf) .leaf)) (.node (some Tryz.t99.desc) (.node (some Tryz.t163.desc) (.node (some Tryz.t291.desc) .leaf
  .leaf) (.node (some Tryz.t419.desc) .leaf .leaf)) (.node (some Tryz.t227.desc) (.node (some Tryz.t355.desc) .leaf .leaf) .leaf))) (.node (some Tryz.t51.desc)
  (.node (some Tryz.t83.desc) (.node (some Tryz.t147.desc) (.node (some Tryz.t275.desc) .leaf .leaf) (.node (some Tryz.t403.desc) .leaf .leaf)) (.node (some
  Tryz.t211.desc) (.node (some Tryz.t339.desc) .leaf .leaf) .leaf)) (.node (some Tryz.t115.desc) (.node (some Tryz.t3.desc) (.node (some Tryz.t307.desc) .leaf
  .leaf) (.node (some Tryz.t435.desc) .leaf .leaf)) (.node (some Tryz.t243.desc) (.node (some Tryz.t371.desc) .leaf .leaf) .leaf)))) (.node (some Tryz.t27.desc)
  (.node (some Tryz.t43.desc) (.node (some Tryz.t75.desc) (.node (some Tryz.t139.desc) (.node (some Tryz.t267.desc) .leaf .leaf) (.node (some Tryz.t394.desc)
  .leaf .leaf)) (.node (some Tryz.t203.desc) (.node (some Tryz.t331.desc) .leaf .leaf) .leaf)) (.node (some Tryz.t107.desc) (.node (some Tryz.t171.desc) (.node
  (some Tryz.t299.desc) .leaf .leaf) (.node (some Tryz.t427.desc) .leaf .leaf)) (.node (some Tryz.t235.desc) (.node (some Tryz.t363.desc) .leaf .leaf) .leaf)))
  (.node (some Tryz.t59.desc) (.node (some Tryz.t91.desc) (.node (some Tryz.t155.desc) (.node (some Tryz.t283.desc) .leaf .leaf) (.node (some Tryz.t410.desc)
  .leaf .leaf)) (.node (some Tryz.t219.desc) (.node (some Tryz.t347.desc) .leaf .leaf) .leaf)) (.node (some Tryz.t123.desc) (.node (some Tryz.t187.desc) (.node
  (some Tryz.t315.desc) .leaf .leaf) (.node (some Tryz.t443.desc) .leaf .leaf)) (.node (some Tryz.t251.desc) (.node (some Tryz.t379.desc) .leaf .leaf)
  .leaf)))))) (.node (some Tryz.t5.desc) (.node (some Tryz.t9.desc) (.node (some Tryz.t17.desc) (.node (some Tryz.t32.desc) (.node (some Tryz.t65.desc) (.node
  (some Tryz.t129.desc) (.node (some Tryz.t257.desc) .leaf .leaf) (.node (some Tryz.t385.desc) .leaf .leaf)) (.node (some Tryz.t193.desc) (.node (some
  Tryz.t320.desc) .leaf .leaf) (.node (some Tryz.t449.desc) .leaf .leaf))) (.node (some Tryz.t97.desc) (.node (some Tryz.t161.desc) (.node (some Tryz.t289.desc)
  .leaf .leaf) (.node (some Tryz.t416.desc) .leaf .leaf)) (.node (some Tryz.t224.desc) (.node (some Tryz.t353.desc) .leaf .leaf) .leaf))) (.node (some
  Tryz.t49.desc) (.node (some Tryz.t81.desc) (.node (some Tryz.t145.desc) (.node (some Tryz.t273.desc) .leaf .leaf) (.node (some Tryz.t401.desc) .leaf .leaf))
  (.node (some Tryz.t209.desc) (.node (some Tryz.t337.desc) .leaf .leaf) .leaf)) (.node (some Tryz.t113.desc) (.node (some Tryz.t177.desc) (.node (some
  Tryz.t305.desc) .leaf .leaf) (.node (some Tryz.t433.desc) .leaf .leaf)) (.node (some Tryz.t241.desc) (.node (some Tryz.t369.desc) .leaf .leaf) .leaf))))
  (.node (some Tryz.t25.desc) (.node (some Tryz.t41.desc) (.node (some Tryz.t73.desc) (.node (some Tryz.t137.desc) (.node (some Tryz.t265.desc) .leaf .leaf)
  (.node (some Tryz.t393.desc) .leaf .leaf)) (.node (some Tryz.t201.desc) (.node (some Tryz.t329.desc) .leaf .leaf) .leaf)) (.node (some Tryz.t105.desc) (.node
  (some Tryz.t169.desc) (.node (some Tryz.t297.desc) .leaf .leaf) (.node (some Tryz.t425.desc) .leaf .leaf)) (.node (some Tryz.t233.desc) (.node (some
  Tryz.t361.desc) .leaf .leaf) .leaf))) (.node (some Tryz.t56.desc) (.node (some Tryz.t89.desc) (.node (some Tryz.t153.desc) (.node (some Tryz.t281.desc) .leaf
  .leaf) (.node (some Tryz.t408.desc) .leaf .leaf)) (.node (some Tryz.t217.desc) (.node (some Tryz.t345.desc) .leaf .leaf) .leaf)) (.node (some Tryz.t121.desc)
  (.node (some Tryz.t185.desc) (.node (some Tryz.t313.desc) .leaf .leaf) (.node (some Tryz.t5.desc) .leaf .leaf)) (.node (some Tryz.t249.desc) (.node (some
  Tryz.t377.desc) .leaf .leaf) .leaf))))) (.node (some Tryz.t13.desc) (.node (some Tryz.t21.desc) (.node (some Tryz.t37.desc) (.node (some Tryz.t69.desc) (.node
  (some Tryz.t133.desc) (.node (some Tryz.t261.desc) .leaf .leaf) (.node (some Tryz.t388.desc) .leaf .leaf)) (.node (some Tryz.t197.desc) (.node (some
  Tryz.t324.desc) .leaf .leaf) .leaf)) (.node (some Tryz.t101.desc) (.node (some Tryz.t165.desc) (.node (some Tryz.t293.desc) .leaf .leaf) (.node (some
  Tryz.t421.desc) .leaf .leaf)) (.node (some Tryz.t229.desc) (.node (some Tryz.t357.desc) .leaf .leaf) .leaf))) (.node (some Tryz.t53.desc) (.node (some
  Tryz.t85.desc) (.node (some Tryz.t149.desc) (.node (some Tryz.t277.desc) .leaf .leaf) (.node (some Tryz.t405.desc) .leaf .leaf)) (.node (some Tryz.t213.desc)
  (.node (some Tryz.t341.desc) .leaf .leaf) .leaf)) (.node (some Tryz.t117.desc) (.node (some Tryz.t180.desc) (.node (some Tryz.t309.desc) .leaf .leaf) (.node
  (some Tryz.t437.desc) .leaf .leaf)) (.node (some Tryz.t245.desc) (.node (some Tryz.t373.desc) .leaf .leaf) .leaf)))) (.node (some Tryz.t29.desc) (.node (some
  Tryz.t45.desc) (.node (some Tryz.t76.desc) (.node (some Tryz.t141.desc) (.node (some Tryz.t269.desc) .leaf .leaf) (.node (some Tryz.t397.desc) .leaf .leaf))
  (.node (some Tryz.t205.desc) (.node (some Tryz.t332.desc) .leaf .leaf) .leaf)) (.node (some Tryz.t109.desc) (.node (some Tryz.t173.desc) (.node (some
  Tryz.t301.desc) .leaf .leaf) (.node (some Tryz.t429.desc) .leaf .leaf)) (.node (some Tryz.t237.desc) (.node (some Tryz.t365.desc) .leaf .leaf) .leaf))) (.node
  (some Tryz.t61.desc) (.node (some Tryz.t93.desc) (.node (some Tryz.t157.desc) (.node (some Tryz.t285.desc) .leaf .leaf) (.node (some Tryz.t413.desc) .leaf
  .leaf)) (.node (some Tryz.t3.desc) (.node (some Tryz.t349.desc) .leaf .leaf) .leaf)) (.node (some Tryz.t125.desc) (.node (some Tryz.t189.desc) (.node (some
  Tryz.t317.desc) .leaf .leaf) (.node (some Tryz.t21.desc) .leaf .leaf)) (.node (some Tryz.t252.desc) (.node (some Tryz.t273.desc) .leaf .leaf) .leaf)))))))
  (.node (some Tryz.t2.desc) (.node (some Tryz.t4.desc) (.node (some Tryz.t7.desc) (.node (some Tryz.t16.desc) (.node (some Tryz.t32.desc) (.node (some
  Tryz.t64.desc) (.node (some Tryz.t3.desc) (.node (some Tryz.t256.desc) .leaf .leaf) (.node (some Tryz.t384.desc) .leaf .leaf)) (.node (some Tryz.t192.desc)
  (.node (some Tryz.t320.desc) .leaf .leaf) (.node (some Tryz.t448.desc) .leaf .leaf))) (.node (some Tryz.t96.desc) (.node (some Tryz.t160.desc) (.node (some
  Tryz.t53.desc) .leaf .leaf) (.node (some Tryz.t416.desc) .leaf .leaf)) (.node (some Tryz.t224.desc) (.node (some Tryz.t252.desc) .leaf .leaf) .leaf))) (.node
  (some Tryz.t48.desc) (.node (some Tryz.t80.desc) (.node (some Tryz.t144.desc) (.node (some Tryz.t271.desc) .leaf .leaf) (.node (some Tryz.t400.desc) .leaf
  .leaf)) (.node (some Tryz.t208.desc) (.node (some Tryz.t336.desc) .leaf .leaf) .leaf)) (.node (some Tryz.t112.desc) (.node (some Tryz.t176.desc) (.node (some
  Tryz.t304.desc) .leaf .leaf) (.node (some Tryz.t432.desc) .leaf .leaf)) (.node (some Tryz.t240.desc) (.node (some Tryz.t368.desc) .leaf .leaf) .leaf))))
  (.node (some Tryz.t23.desc) (.node (some Tryz.t40.desc) (.node (some Tryz.t72.desc) (.node (some Tryz.t136.desc) (.node (some Tryz.t264.desc) .leaf .leaf)
  (.node (some Tryz.t392.desc) .leaf .leaf)) (.node (some Tryz.t200.desc) (.node (some Tryz.t328.desc) .leaf .leaf) .leaf)) (.node (some Tryz.t50.desc) (.node
  (some Tryz.t168.desc) (.node (some Tryz.t296.desc) .leaf .leaf) (.node (some Tryz.t424.desc) .leaf .leaf)) (.node (some Tryz.t232.desc) (.node (some
  Tryz.t360.desc) .leaf .leaf) .leaf))) (.node (some Tryz.t56.desc) (.node (some Tryz.t88.desc) (.node (some Tryz.t152.desc) (.node (some Tryz.t279.desc) .leaf
  .leaf) (.node (some Tryz.t408.desc) .leaf .leaf)) (.node (some Tryz.t216.desc) (.node (some Tryz.t343.desc) .leaf .leaf) .leaf)) (.node (some Tryz.t120.desc)
  (.node (some Tryz.t184.desc) (.node (some Tryz.t312.desc) .leaf .leaf) (.node (some Tryz.t5.desc) .leaf .leaf)) (.node (some Tryz.t248.desc) (.node (some
  Tryz.t376.desc) .leaf .leaf) .leaf))))) (.node (some Tryz.t12.desc) (.node (some Tryz.t20.desc) (.node (some Tryz.t3.desc) (.node (some Tryz.t68.desc) (.node
  (some Tryz.t132.desc) (.node (some Tryz.t259.desc) .leaf .leaf) (.node (some Tryz.t388.desc) .leaf .leaf)) (.node (some Tryz.t196.desc) (.node (some
  Tryz.t324.desc) .leaf .leaf) .leaf)) (.node (some Tryz.t100.desc) (.node (some Tryz.t164.desc) (.node (some Tryz.t292.desc) .leaf .leaf) (.node (some
  Tryz.t419.desc) .leaf .leaf)) (.node (some Tryz.t228.desc) (.node (some Tryz.t356.desc) .leaf .leaf) .leaf))) (.node (some Tryz.t51.desc) (.node (some
  Tryz.t84.desc) (.node (some Tryz.t148.desc) (.node (some Tryz.t276.desc) .leaf .leaf) (.node (some Tryz.t404.desc) .leaf .leaf)) (.node (some Tryz.t212.desc)
  (.node (some Tryz.t340.desc) .leaf .leaf) .leaf)) (.node (some Tryz.t116.desc) (.node (some Tryz.t180.desc) (.node (some Tryz.t307.desc) .leaf .leaf) (.node
  (some Tryz.t435.desc) .leaf .leaf)) (.node (some Tryz.t244.desc) (.node (some Tryz.t371.desc) .leaf .leaf) .leaf)))) (.node (some Tryz.t28.desc) (.node (some
  Tryz.t44.desc) (.node (some Tryz.t76.desc) (.node (some Tryz.t139.desc) (.node (some Tryz.t268.desc) .leaf .leaf) (.node (some Tryz.t396.desc) .leaf .leaf))
  (.node (some Tryz.t204.desc) (.node (some Tryz.t332.desc) .leaf .leaf) .leaf)) (.node (some Tryz.t108.desc) (.node (some Tryz.t172.desc) (.node (some
  Tryz.t300.desc) .leaf .leaf) (.node (some Tryz.t428.desc) .leaf .leaf)) (.node (some Tryz.t236.desc) (.node (some Tryz.t364.desc) .leaf .leaf) .leaf))) (.node
  (some Tryz.t60.desc) (.node (some Tryz.t92.desc) (.node (some Tryz.t156.desc) (.node (some Tryz.t284.desc) .leaf .leaf) (.node (some Tryz.t412.desc) .leaf
  .leaf)) (.node (some Tryz.t220.desc) (.node (some Tryz.t348.desc) .leaf .leaf) .leaf)) (.node (some Tryz.t123.desc) (.node (some Tryz.t188.desc) (.node (some
  Tryz.t316.desc) .leaf .leaf) (.node (some Tryz.t21.desc) .leaf .leaf)) (.node (some Tryz.t252.desc) (.node (some Tryz.t380.desc) .leaf .leaf) .leaf))))))
  (.node (some Tryz.t5.desc) (.node (some Tryz.t9.desc) (.node (some Tryz.t18.desc) (.node (some Tryz.t34.desc) (.node (some Tryz.t66.desc) (.node (some
  Tryz.t130.desc) (.node (some Tryz.t258.desc) .leaf .leaf) (.node (some Tryz.t386.desc) .leaf .leaf)) (.node (some Tryz.t194.desc) (.node (some Tryz.t322.desc)
  .leaf .leaf) .leaf)) (.node (some Tryz.t98.desc) (.node (some Tryz.t162.desc) (.node (some Tryz.t289.desc) .leaf .leaf) (.node (some Tryz.t418.desc) .leaf
  .leaf)) (.node (some Tryz.t226.desc) (.node (some Tryz.t354.desc) .leaf .leaf) .leaf))) (.node (some Tryz.t50.desc) (.node (some Tryz.t82.desc) (.node (some
  Tryz.t146.desc) (.node (some Tryz.t273.desc) .leaf .leaf) (.node (some Tryz.t402.desc) .leaf .leaf)) (.node (some Tryz.t210.desc) (.node (some Tryz.t338.desc)
  .leaf .leaf) .leaf)) (.node (some Tryz.t114.desc) (.node (some Tryz.t177.desc) (.node (some Tryz.t306.desc) .leaf .leaf) (.node (some Tryz.t434.desc) .leaf
  .leaf)) (.node (some Tryz.t241.desc) (.node (some Tryz.t370.desc) .leaf .leaf) .leaf)))) (.node (some Tryz.t26.desc) (.node (some Tryz.t42.desc) (.node (some
  Tryz.t74.desc) (.node (some Tryz.t138.desc) (.node (some Tryz.t265.desc) .leaf .leaf) (.node (some Tryz.t394.desc) .leaf .leaf)) (.node (some Tryz.t201.desc)
  (.node (some Tryz.t330.desc) .leaf .leaf) .leaf)) (.node (some Tryz.t105.desc) (.node (some Tryz.t170.desc) (.node (some Tryz.t298.desc) .leaf .leaf) (.node
  (some Tryz.t426.desc) .leaf .leaf)) (.node (some Tryz.t233.desc) (.node (some Tryz.t362.desc) .leaf .leaf) .leaf))) (.node (some Tryz.t58.desc) (.node (some
  Tryz.t90.desc) (.node (some Tryz.t154.desc) (.node (some Tryz.t282.desc) .leaf .leaf) (.node (some Tryz.t410.desc) .leaf .leaf)) (.node (some Tryz.t218.desc)
  (.node (some Tryz.t346.desc) .leaf .leaf) .leaf)) (.node (some Tryz.t121.desc) (.node (some Tryz.t186.desc) (.node (some Tryz.t314.desc) .leaf .leaf) (.node
  (some Tryz.t442.desc) .leaf .leaf)) (.node (some Tryz.t250.desc) (.node (some Tryz.t377.desc) .leaf .leaf) .leaf))))) (.node (some Tryz.t13.desc) (.node (some
  Tryz.t3.desc) (.node (some Tryz.t38.desc) (.node (some Tryz.t70.desc) (.node (some Tryz.t133.desc) (.node (some Tryz.t262.desc) .leaf .leaf) (.node (some
  Tryz.t390.desc) .leaf .leaf)) (.node (some Tryz.t198.desc) (.node (some Tryz.t326.desc) .leaf .leaf) .leaf)) (.node (some Tryz.t102.desc) (.node (some
  Tryz.t166.desc) (.node (some Tryz.t294.desc) .leaf .leaf) (.node (some Tryz.t422.desc) .leaf .leaf)) (.node (some Tryz.t230.desc) (.node (some Tryz.t358.desc)
  .leaf .leaf) .leaf))) (.node (some Tryz.t54.desc) (.node (some Tryz.t86.desc) (.node (some Tryz.t150.desc) (.node (some Tryz.t278.desc) .leaf .leaf) (.node
  (some Tryz.t406.desc) .leaf .leaf)) (.node (some Tryz.t214.desc) (.node (some Tryz.t342.desc) .leaf .leaf) .leaf)) (.node (some Tryz.t118.desc) (.node (some
  Tryz.t182.desc) (.node (some Tryz.t310.desc) .leaf .leaf) (.node (some Tryz.t438.desc) .leaf .leaf)) (.node (some Tryz.t245.desc) (.node (some Tryz.t374.desc)
  .leaf .leaf) .leaf)))) (.node (some Tryz.t30.desc) (.node (some Tryz.t46.desc) (.node (some Tryz.t78.desc) (.node (some Tryz.t142.desc) (.node (some
  Tryz.t270.desc) .leaf .leaf) (.node (some Tryz.t398.desc) .leaf .leaf)) (.node (some Tryz.t206.desc) (.node (some Tryz.t334.desc) .leaf .leaf) .leaf)) (.node
  (some Tryz.t110.desc) (.node (some Tryz.t174.desc) (.node (some Tryz.t302.desc) .leaf .leaf) (.node (some Tryz.t430.desc) .leaf .leaf)) (.node (some
  Tryz.t237.desc) (.node (some Tryz.t366.desc) .leaf .leaf) .leaf))) (.node (some Tryz.t62.desc) (.node (some Tryz.t94.desc) (.node (some Tryz.t158.desc) (.node
  (some Tryz.t286.desc) .leaf .leaf) (.node (some Tryz.t414.desc) .leaf .leaf)) (.node (some Tryz.t3.desc) (.node (some Tryz.t350.desc) .leaf .leaf) .leaf))
  (.node (some Tryz.t126.desc) (.node (some Tryz.t190.desc) (.node (some Tryz.t318.desc) .leaf .leaf) (.node (some Tryz.t446.desc) .leaf .leaf)) (.node (some
  Tryz.t254.desc) (.node (some Tryz.t382.desc) .leaf .leaf) .leaf))))))))
noncomputable def funcT : T Func :=
  (.node (some Tryz.f0) (.node (some Tryz.f1) (.node (some Tryz.f3) (.node (some Tryz.f7) (.node (some Tryz.f15) (.node (some Tryz.f31) (.node (some Tryz.f63)
  (.node (some Tryz.f127) (.node (some Tryz.f255) .leaf .leaf) .leaf) (.node (some Tryz.f191) (.node (some Tryz.f319) .leaf .leaf) .leaf)) (.node (some
  Tryz.f95) (.node (some Tryz.f159) (.node (some Tryz.f287) .leaf .leaf) .leaf) (.node (some Tryz.f223) (.node (some Tryz.f351) .leaf .leaf) .leaf))) (.node
  (some Tryz.f47) (.node (some Tryz.f79) (.node (some Tryz.f143) (.node (some Tryz.f271) .leaf .leaf) .leaf) (.node (some Tryz.f207) (.node (some Tryz.f335)
  .leaf .leaf) .leaf)) (.node (some Tryz.f111) (.node (some Tryz.f175) (.node (some Tryz.f303) .leaf .leaf) .leaf) (.node (some Tryz.f239) .leaf .leaf))))
  (.node (some Tryz.f23) (.node (some Tryz.f39) (.node (some Tryz.f71) (.node (some Tryz.f135) (.node (some Tryz.f263) .leaf .leaf) .leaf) (.node (some
  Tryz.f199) (.node (some Tryz.f327) .leaf .leaf) .leaf)) (.node (some Tryz.f103) (.node (some Tryz.f167) (.node (some Tryz.f295) .leaf .leaf) .leaf) (.node
  (some Tryz.f231) (.node (some Tryz.f359) .leaf .leaf) .leaf))) (.node (some Tryz.f55) (.node (some Tryz.f87) (.node (some Tryz.f151) (.node (some Tryz.f279)
  .leaf .leaf) .leaf) (.node (some Tryz.f215) (.node (some Tryz.f343) .leaf .leaf) .leaf)) (.node (some Tryz.f119) (.node (some Tryz.f183) (.node (some
  Tryz.f311) .leaf .leaf) .leaf) (.node (some Tryz.f247) .leaf .leaf))))) (.node (some Tryz.f11) (.node (some Tryz.f19) (.node (some Tryz.f35) (.node (some
  Tryz.f67) (.node (some Tryz.f131) (.node (some Tryz.f259) .leaf .leaf) .leaf) (.node (some Tryz.f195) (.node (some Tryz.f323) .leaf .leaf) .leaf)) (.node
  (some Tryz.f99) (.node (some Tryz.f163) (.node (some Tryz.f291) .leaf .leaf) .leaf) (.node (some Tryz.f227) (.node (some Tryz.f355) .leaf .leaf) .leaf)))
  (.node (some Tryz.f51) (.node (some Tryz.f83) (.node (some Tryz.f147) (.node (some Tryz.f275) .leaf .leaf) .leaf) (.node (some Tryz.f211) (.node (some
  Tryz.f339) .leaf .leaf) .leaf)) (.node (some Tryz.f115) (.node (some Tryz.f179) (.node (some Tryz.f307) .leaf .leaf) .leaf) (.node (some Tryz.f243) .leaf
  .leaf)))) (.node (some Tryz.f27) (.node (some Tryz.f43) (.node (some Tryz.f75) (.node (some Tryz.f139) (.node (some Tryz.f267) .leaf .leaf) .leaf) (.node
  (some Tryz.f203) (.node (some Tryz.f331) .leaf .leaf) .leaf)) (.node (some Tryz.f107) (.node (some Tryz.f171) (.node (some Tryz.f299) .leaf .leaf) .leaf)
  (.node (some Tryz.f235) .leaf .leaf))) (.node (some Tryz.f59) (.node (some Tryz.f91) (.node (some Tryz.f155) (.node (some Tryz.f283) .leaf .leaf) .leaf)
  (.node (some Tryz.f219) (.node (some Tryz.f347) .leaf .leaf) .leaf)) (.node (some Tryz.f123) (.node (some Tryz.f187) (.node (some Tryz.f315) .leaf .leaf)
  .leaf) (.node (some Tryz.f251) .leaf .leaf)))))) (.node (some Tryz.f5) (.node (some Tryz.f9) (.node (some Tryz.f17) (.node (some Tryz.f33) (.node (some
  Tryz.f65) (.node (some Tryz.f129) (.node (some Tryz.f257) .leaf .leaf) .leaf) (.node (some Tryz.f193) (.node (some Tryz.f321) .leaf .leaf) .leaf)) (.node
  (some Tryz.f97) (.node (some Tryz.f161) (.node (some Tryz.f289) .leaf .leaf) .leaf) (.node (some Tryz.f225) (.node (some Tryz.f353) .leaf .leaf) .leaf)))
  (.node (some Tryz.f49) (.node (some Tryz.f81) (.node (some Tryz.f145) (.node (some Tryz.f273) .leaf .leaf) .leaf) (.node (some Tryz.f209) (.node (some
  Tryz.f337) .leaf .leaf) .leaf)) (.node (some Tryz.f113) (.node (some Tryz.f177) (.node (some Tryz.f305) .leaf .leaf) .leaf) (.node (some Tryz.f241) .leaf
  .leaf)))) (.node (some Tryz.f25) (.node (some Tryz.f41) (.node (some Tryz.f73) (.node (some Tryz.f137) (.node (some Tryz.f265) .leaf .leaf) .leaf) (.node
  (some Tryz.f201) (.node (some Tryz.f329) .leaf .leaf) .leaf)) (.node (some Tryz.f105) (.node (some Tryz.f169) (.node (some Tryz.f297) .leaf .leaf) .leaf)
  (.node (some Tryz.f233) .leaf .leaf))) (.node (some Tryz.f57) (.node (some Tryz.f89) (.node (some Tryz.f153) (.node (some Tryz.f281) .leaf .leaf) .leaf)
  (.node (some Tryz.f217) (.node (some Tryz.f345) .leaf .leaf) .leaf)) (.node (some Tryz.f121) (.node (some Tryz.f185) (.node (some Tryz.f313) .leaf .leaf)
  .leaf) (.node (some Tryz.f249) .leaf .leaf))))) (.node (some Tryz.f13) (.node (some Tryz.f21) (.node (some Tryz.f37) (.node (some Tryz.f69) (.node (some
  Tryz.f133) (.node (some Tryz.f261) .leaf .leaf) .leaf) (.node (some Tryz.f197) (.node (some Tryz.f325) .leaf .leaf) .leaf)) (.node (some Tryz.f101) (.node
  (some Tryz.f165) (.node (some Tryz.f293) .leaf .leaf) .leaf) (.node (some Tryz.f229) (.node (some Tryz.f357) .leaf .leaf) .leaf))) (.node (some Tryz.f53)
  (.node (some Tryz.f85) (.node (some Tryz.f149) (.node (some Tryz.f277) .leaf .leaf) .leaf) (.node (some Tryz.f213) (.node (some Tryz.f341) .leaf .leaf)
  .leaf)) (.node (some Tryz.f117) (.node (some Tryz.f181) (.node (some Tryz.f309) .leaf .leaf) .leaf) (.node (some Tryz.f245) .leaf .leaf)))) (.node (some
  Tryz.f29) (.node (some Tryz.f45) (.node (some Tryz.f77) (.node (some Tryz.f141) (.node (some Tryz.f269) .leaf .leaf) .leaf) (.node (some Tryz.f205) (.node
  (some Tryz.f333) .leaf .leaf) .leaf)) (.node (some Tryz.f109) (.node (some Tryz.f173) (.node (some Tryz.f301) .leaf .leaf) .leaf) (.node (some Tryz.f237)
  .leaf .leaf))) (.node (some Tryz.f61) (.node (some Tryz.f93) (.node (some Tryz.f157) (.node (some Tryz.f285) .leaf .leaf) .leaf) (.node (some Tryz.f221)
  (.node (some Tryz.f349) .leaf .leaf) .leaf)) (.node (some Tryz.f125) (.node (some Tryz.f189) (.node (some Tryz.f317) .leaf .leaf) .leaf) (.node (some
  Tryz.f253) .leaf .leaf))))))) (.node (some Tryz.f2) (.node (some Tryz.f4) (.node (some Tryz.f8) (.node (some Tryz.f16) (.node (some Tryz.f32) (.node (some
  Tryz.f64) (.node (some Tryz.f128) (.node (some Tryz.f256) .leaf .leaf) .leaf) (.node (some Tryz.f192) (.node (some Tryz.f320) .leaf .leaf) .leaf)) (.node
  (some Tryz.f96) (.node (some Tryz.f160) (.node (some Tryz.f288) .leaf .leaf) .leaf) (.node (some Tryz.f224) (.node (some Tryz.f352) .leaf .leaf) .leaf)))
  (.node (some Tryz.f48) (.node (some Tryz.f80) (.node (some Tryz.f144) (.node (some Tryz.f272) .leaf .leaf) .leaf) (.node (some Tryz.f208) (.node (some
  Tryz.f336) .leaf .leaf) .leaf)) (.node (some Tryz.f112) (.node (some Tryz.f176) (.node (some Tryz.f304) .leaf .leaf) .leaf) (.node (some Tryz.f240) .leaf
  .leaf)))) (.node (some Tryz.f24) (.node (some Tryz.f40) (.node (some Tryz.f72) (.node (some Tryz.f136) (.node (some Tryz.f264) .leaf .leaf) .leaf) (.node
  (some Tryz.f200) (.node (some Tryz.f328) .leaf .leaf) .leaf)) (.node (some Tryz.f104) (.node (some Tryz.f168) (.node (some Tryz.f296) .leaf .leaf) .leaf)
  (.node (some Tryz.f232) (.node (some Tryz.f360) .leaf .leaf) .leaf))) (.node (some Tryz.f56) (.node (some Tryz.f88) (.node (some Tryz.f152) (.node (some
  Tryz.f280) .leaf .leaf) .leaf) (.node (some Tryz.f216) (.node (some Tryz.f344) .leaf .leaf) .leaf)) (.node (some Tryz.f120) (.node (some Tryz.f184) (.node
  (some Tryz.f312) .leaf .leaf) .leaf) (.node (some Tryz.f248) .leaf .leaf))))) (.node (some Tryz.f12) (.node (some Tryz.f20) (.node (some Tryz.f36) (.node
  (some Tryz.f68) (.node (some Tryz.f132) (.node (some Tryz.f260) .leaf .leaf) .leaf) (.node (some Tryz.f196) (.node (some Tryz.f324) .leaf .leaf) .leaf))
  (.node (some Tryz.f100) (.node (some Tryz.f164) (.node (some Tryz.f292) .leaf .leaf) .leaf) (.node (some Tryz.f228) (.node (some Tryz.f356) .leaf .leaf)
  .leaf))) (.node (some Tryz.f52) (.node (some Tryz.f84) (.node (some Tryz.f148) (.node (some Tryz.f276) .leaf .leaf) .leaf) (.node (some Tryz.f212) (.node
  (some Tryz.f340) .leaf .leaf) .leaf)) (.node (some Tryz.f116) (.node (some Tryz.f180) (.node (some Tryz.f308) .leaf .leaf) .leaf) (.node (some Tryz.f244)
  .leaf .leaf)))) (.node (some Tryz.f28) (.node (some Tryz.f44) (.node (some Tryz.f76) (.node (some Tryz.f140) (.node (some Tryz.f268) .leaf .leaf) .leaf)
  (.node (some Tryz.f204) (.node (some Tryz.f332) .leaf .leaf) .leaf)) (.node (some Tryz.f108) (.node (some Tryz.f172) (.node (some Tryz.f300) .leaf .leaf)
  .leaf) (.node (some Tryz.f236) .leaf .leaf))) (.node (some Tryz.f60) (.node (some Tryz.f92) (.node (some Tryz.f156) (.node (some Tryz.f284) .leaf .leaf)
  .leaf) (.node (some Tryz.f220) (.node (some Tryz.f348) .leaf .leaf) .leaf)) (.node (some Tryz.f124) (.node (some Tryz.f188) (.node (some Tryz.f316) .leaf
  .leaf) .leaf) (.node (some Tryz.f252) .leaf .leaf)))))) (.node (some Tryz.f6) (.node (some Tryz.f10) (.node (some Tryz.f18) (.node (some Tryz.f34) (.node
  (some Tryz.f66) (.node (some Tryz.f130) (.node (some Tryz.f258) .leaf .leaf) .leaf) (.node (some Tryz.f194) (.node (some Tryz.f322) .leaf .leaf) .leaf))
  (.node (some Tryz.f98) (.node (some Tryz.f162) (.node (some Tryz.f290) .leaf .leaf) .leaf) (.node (some Tryz.f226) (.node (some Tryz.f354) .leaf .leaf)
  .leaf))) (.node (some Tryz.f50) (.node (some Tryz.f82) (.node (some Tryz.f146) (.node (some Tryz.f274) .leaf .leaf) .leaf) (.node (some Tryz.f210) (.node
  (some Tryz.f338) .leaf .leaf) .leaf)) (.node (some Tryz.f114) (.node (some Tryz.f178) (.node (some Tryz.f306) .leaf .leaf) .leaf) (.node (some Tryz.f242)
  .leaf .leaf)))) (.node (some Tryz.f26) (.node (some Tryz.f42) (.node (some Tryz.f74) (.node (some Tryz.f138) (.node (some Tryz.f266) .leaf .leaf) .leaf)
  (.node (some Tryz.f202) (.node (some Tryz.f330) .leaf .leaf) .leaf)) (.node (some Tryz.f106) (.node (some Tryz.f170) (.node (some Tryz.f298) .leaf .leaf)
  .leaf) (.node (some Tryz.f234) .leaf .leaf))) (.node (some Tryz.f58) (.node (some Tryz.f90) (.node (some Tryz.f154) (.node (some Tryz.f282) .leaf .leaf)
  .leaf) (.node (some Tryz.f218) (.node (some Tryz.f346) .leaf .leaf) .leaf)) (.node (some Tryz.f122) (.node (some Tryz.f186) (.node (some Tryz.f314) .leaf
  .leaf) .leaf) (.node (some Tryz.f250) .leaf .leaf))))) (.node (some Tryz.f14) (.node (some Tryz.f22) (.node (some Tryz.f38) (.node (some Tryz.f70) (.node
  (some Tryz.f134) (.node (some Tryz.f262) .leaf .leaf) .leaf) (.node (some Tryz.f198) (.node (some Tryz.f326) .leaf .leaf) .leaf)) (.node (some Tryz.f102)
  (.node (some Tryz.f166) (.node (some Tryz.f294) .leaf .leaf) .leaf) (.node (some Tryz.f230) (.node (some Tryz.f358) .leaf .leaf) .leaf))) (.node (some
  Tryz.f54) (.node (some Tryz.f86) (.node (some Tryz.f150) (.node (some Tryz.f278) .leaf .leaf) .leaf) (.node (some Tryz.f214) (.node (some Tryz.f342) .leaf
  .leaf) .leaf)) (.node (some Tryz.f118) (.node (some Tryz.f182) (.node (some Tryz.f310) .leaf .leaf) .leaf) (.node (some Tryz.f246) .leaf .leaf)))) (.node
  (some Tryz.f30) (.node (some Tryz.f46) (.node (some Tryz.f78) (.node (some Tryz.f142) (.node (some Tryz.f270) .leaf .leaf) .leaf) (.node (some Tryz.f206)
  (.node (some Tryz.f334) .leaf .leaf) .leaf)) (.node (some Tryz.f110) (.node (some Tryz.f174) (.node (some Tryz.f302) .leaf .leaf) .leaf) (.node (some
  Tryz.f238) .leaf .leaf))) (.node (some Tryz.f62) (.node (some Tryz.f94) (.node (some Tryz.f158) (.node (some Tryz.f286) .leaf .leaf) .leaf) (.node (some
  Tryz.f222) (.node (some Tryz.f350) .leaf .leaf) .leaf)) (.node (some Tryz.f126) (.node (some Tryz.f190) (.node (some Tryz.f318) .leaf .leaf) .leaf) (.node
  (some Tryz.f254) .leaf .leaf))))))))
/-- the tables, as tries -/
noncomputable def tb0 : Tab := { info := infoT.get, und := undT.get, func := funcT.get }
theorem tb0_ok [Interp] : tb0.OK Tryz.prog :=
  tabOK (types := typeRows) (unds := undRows) (funcs := funcRows) (by kernel_rfl) (by kernel_rfl) (by kernel_rfl) (by kernel_rfl) (by kernel_rfl) (by kernel_rfl) (by kernel_rfl) (by kernel_rfl) (by kernel_rfl)
/-- functions that the model does by itself -/
noncomputable def exts : List (Nat × Ext) := []
theorem exts_ok : ∀ q ∈ exts, ExtOK Tryz.prog q := fun _ h => by cases h
noncomputable def tb : Tab := { tb0 with ext := extAt exts }
theorem tb_ok [Interp] : tb.OK Tryz.prog := tb0_ok.exts exts_ok
end Go.Proofs.YtapnpdingakdcaaGreat
